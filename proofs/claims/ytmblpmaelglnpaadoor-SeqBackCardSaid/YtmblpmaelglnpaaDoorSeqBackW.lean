/-
  SeqBack: the statement's function, walked.
-/
import Derived.Test.YtmblpmaelglnpaaDoorRows
import Derived.Test.YtmblpmaelglnpaaDoorSeqLaw1
import Derived.Test.YtmblpmaelglnpaaDoorSeqOf4
import Derived.Test.YtmblpmaelglnpaaDoorSeqPlan
import Derived.Test.YtmblpmaelglnpaaDoorGBase
import Derived.Deep.Light
import Derived.Shelf.Abstract
import Derived.Shelf.RegionOpen
import Derived.OwnWalkIn
import Derived.TacticsInMore
import Derived.LoopNIn
import Derived.LoopIn
import Derived.Maps.OwnIn
import Derived.Outline
import Derived.IntWalk
import Derived.WalkMore
import Derived.Deep.CutBlock
namespace Go.Proofs.YtmblpmaelglnpaaDoor
open Go.RowKit
set_option linter.unusedSimpArgs false
set_option linter.unusedVariables false
open Go.Shelf
attribute [local go_sem] eq23 Oper.semAt_some

theorem rof_plan {before out : ByteArray} {L D M : List Int} {f : Nat} {a b c : Int} (h : PlanOk (before ++ out) before.size L D M f) (hb : before.size ≤ 60) (ho : out.size ≤ 120) (hl : L.length ≤ 12) (hc : chkL true [a, b, c] = 0) : (Rof before out L D M a b c).2.2.2 = 0 := by
  obtain ⟨h1, h2, h3, h4⟩ := h
  have hsz : (before ++ out).size = before.size + out.size := ByteArray.size_append
  unfold Rof
  rw [if_neg (by rw [h1]; simp), if_neg (by omega), if_neg (by rw [hc]; simp), if_neg (by omega), if_neg (by omega), if_neg]
  intro e
  have : (List.range L.length).all (oFit (before ++ out) before.size L D M) = true := by
    rw [List.all_eq_true]
    intro i hi
    exact h4 i (List.mem_range.1 hi)
  rw [this] at e
  cases e
theorem oL_le12 (all : ByteArray) (n0 : Nat) (ls ms : List Int) : ∀ i, (oL all n0 ls ms i).size ≤ i * all.size := by
  intro i
  induction i with
  | zero => exact Nat.zero_le _
  | succ i ih =>
    rw [oL, ByteArray.size_append, ByteArray.size_extract, Nat.succ_mul]
    omega
theorem rof_lits {before out : ByteArray} {L D M : List Int} {a b c : Int} (h : (Rof before out L D M a b c).2.2.2 = 0) (hl : L.length ≤ 12) (hs : before.size + out.size ≤ 180) : (Rof before out L D M a b c).2.1.size ≤ 9223372036854775807 := by
  obtain ⟨_, _, _, _, _, _, _, he⟩ := rof_inv h
  have h1 := oL_le12 (before ++ out) before.size L M L.length
  have h2 : L.length * (before ++ out).size ≤ 12 * (before ++ out).size := Nat.mul_le_mul_right _ hl
  have hsz : (before ++ out).size = before.size + out.size := ByteArray.size_append
  rw [he]
  dsimp only
  rw [ByteArray.size_append, ByteArray.size_extract]
  omega
set_option maxRecDepth 100000 in
set_option maxHeartbeats 8000000 in
theorem seqBack_t (pn : Option Addr) (ns : List Int) (cn : Nat) (pm : Option Addr) (ms : List Int) (cm : Nat) (pc : Option Addr) (cs : List Int) (cc : Nat) (r : Int) (w : World) (hn : Row .i64 w pn ns) (hm : Row .i64 w pm ms) (hc : Row .i64 w pc cs) (nn : ns.length ≤ 9223372036854775807) (nm : ms.length ≤ 9223372036854775807) (nc : cs.length ≤ 9223372036854775807) (hg : w.cell? ⟨0, 0, none⟩ = some (.iface 165 (.agg #[.pointer (some ⟨9, 74, none⟩)]))) :
    Calls Tryd.prog 8 #[.slice pn ns.length cn, .slice pm ms.length cm, .slice pc cs.length cc, .int .i64 r] w fun e w' => e = .returned (.bool true) ∧ Below w.heap.size w w' := by
  have hl0 : 0 < w.heap.size := World.block_lt_of_cell? w ⟨0, 0, none⟩ hg
  have qI1 := fun w h => input_k pn ns cn 60 w h nn (by omega)
  have qI2 := fun w h => input_k pm ms cm 120 w h nm (by omega)
  rw [show ((60 : Nat) : Int) = 60 from rfl] at qI1
  rw [show ((120 : Nat) : Int) = 120 from rfl] at qI2
  obtain ⟨k, hk, hk2⟩ : ∃ k : Nat, r % 5 = (k : Int) ∧ k < 5 := ⟨(r % 5).toNat, by omega, by omega⟩
  have qM := fun w => modK r 5 (by omega) (by omega) w
  rw [hk] at qM
  clear hk
  go_enter Tryd.func8, Tryd.ntmps8
  go_upto_region 2 with (first | (go_at_call 34; (with_reducible refine (qI1 _ (hn.later (by repeat' (first | with_reducible exact Below.refl _ _ | with_reducible refine Below.drew ?_ | with_reducible refine below_drewN ?_ _ | with_reducible refine Below.alloc ?_ (by first | omega | (simp <;> omega)) _ | with_reducible refine Below.setCell ?_ (by first | omega | (dsimp only; omega) | (simp <;> omega)) _ | with_reducible refine Below.trans ?_ (Below.mono (by assumption) (by first | omega | (simp <;> omega))))))).mono ?_); rintro en w1 ⟨before, rfl, hz1, hb1⟩; have hs1 := hb1.size) | (go_at_call 34; (with_reducible refine (qI2 _ (hm.later (by repeat' (first | with_reducible exact Below.refl _ _ | with_reducible refine Below.drew ?_ | with_reducible refine below_drewN ?_ _ | with_reducible refine Below.alloc ?_ (by first | omega | (simp <;> omega)) _ | with_reducible refine Below.setCell ?_ (by first | omega | (dsimp only; omega) | (simp <;> omega)) _ | with_reducible refine Below.trans ?_ (Below.mono (by assumption) (by first | omega | (simp <;> omega))))))).mono ?_); rintro en w2 ⟨out, rfl, hz2, hb2⟩; have hs2 := hb2.size))
  obtain ⟨W2, hW2⟩ : ∃ W2 : World, W2 = w2 := ⟨_, rfl⟩
  subst hW2
  have B2 : Below w.heap.size w W2 := hb1.trans (hb2.mono hs1)
  have hB2s := B2.size
  clear hb1 hb2 hs1 hs2 qI1 qI2
  go_cut [11] from 26 to 35 (fun s11 wx => ∃ (BX : Nat) (x y z : Int), s11 = .pointer (some ⟨BX, 0, none⟩) ∧ wx.cell? ⟨BX, 0, none⟩ = some (.int .i64 x) ∧ wx.cell? ⟨BX, 1, none⟩ = some (.int .i64 y) ∧ wx.cell? ⟨BX, 2, none⟩ = some (.int .i64 z) ∧ BX < wx.heap.size ∧ Hid (chkL true [x, y, z] = 0) ∧ Below W2.heap.size W2 wx)
  case first =>
    rcases (show k = 0 ∨ k = 1 ∨ k = 2 ∨ k = 3 ∨ k = 4 by omega) with rfl | rfl | rfl | rfl | rfl
    · go_wp2_with ((go_at_call 21; refine (qM _).mono ?_; rintro en wM ⟨rfl, hbM⟩; have hsM := hbM.size; (simp at hsM); have t0 : wM.cell? ⟨W2.heap.size, 0, none⟩ = some (.int .i64 1) := (hbM.cell (p := ⟨W2.heap.size, 0, none⟩) (by simp)).trans (by simp [go_sem]); have t1 : wM.cell? ⟨W2.heap.size, 1, none⟩ = some (.int .i64 4) := (hbM.cell (p := ⟨W2.heap.size, 1, none⟩) (by simp)).trans (by simp [go_sem]); have t2 : wM.cell? ⟨W2.heap.size, 2, none⟩ = some (.int .i64 8) := (hbM.cell (p := ⟨W2.heap.size, 2, none⟩) (by simp)).trans (by simp [go_sem])))
      go_meet
      go_light
      refine ⟨_, 1, 4, 8, rfl, by simp [go_sem, *], by simp [go_sem, *], by simp [go_sem, *], by simp, Lib.hid (by decide), ?_⟩
      repeat' (first | with_reducible exact Below.refl _ _ | with_reducible refine Below.drew ?_ | with_reducible refine below_drewN ?_ _ | with_reducible refine Below.alloc ?_ (by first | omega | (simp <;> omega)) _ | with_reducible refine Below.setCell ?_ (by first | omega | (dsimp only; omega) | (simp <;> omega)) _ | with_reducible refine Below.trans ?_ (Below.mono (by assumption) (by first | omega | (simp <;> omega))))
    · go_wp2_with ((go_at_call 21; refine (qM _).mono ?_; rintro en wM ⟨rfl, hbM⟩; have hsM := hbM.size; (simp at hsM); have t0 : wM.cell? ⟨W2.heap.size, 3, none⟩ = some (.int .i64 0) := (hbM.cell (p := ⟨W2.heap.size, 3, none⟩) (by simp)).trans (by simp [go_sem]); have t1 : wM.cell? ⟨W2.heap.size, 4, none⟩ = some (.int .i64 0) := (hbM.cell (p := ⟨W2.heap.size, 4, none⟩) (by simp)).trans (by simp [go_sem]); have t2 : wM.cell? ⟨W2.heap.size, 5, none⟩ = some (.int .i64 0) := (hbM.cell (p := ⟨W2.heap.size, 5, none⟩) (by simp)).trans (by simp [go_sem])))
      go_meet
      go_light
      refine ⟨_, 0, 0, 0, rfl, by simp [go_sem, *], by simp [go_sem, *], by simp [go_sem, *], by simp, Lib.hid (by decide), ?_⟩
      repeat' (first | with_reducible exact Below.refl _ _ | with_reducible refine Below.drew ?_ | with_reducible refine below_drewN ?_ _ | with_reducible refine Below.alloc ?_ (by first | omega | (simp <;> omega)) _ | with_reducible refine Below.setCell ?_ (by first | omega | (dsimp only; omega) | (simp <;> omega)) _ | with_reducible refine Below.trans ?_ (Below.mono (by assumption) (by first | omega | (simp <;> omega))))
    · go_wp2_with ((go_at_call 21; refine (qM _).mono ?_; rintro en wM ⟨rfl, hbM⟩; have hsM := hbM.size; (simp at hsM); have t0 : wM.cell? ⟨W2.heap.size, 6, none⟩ = some (.int .i64 3) := (hbM.cell (p := ⟨W2.heap.size, 6, none⟩) (by simp)).trans (by simp [go_sem]); have t1 : wM.cell? ⟨W2.heap.size, 7, none⟩ = some (.int .i64 0) := (hbM.cell (p := ⟨W2.heap.size, 7, none⟩) (by simp)).trans (by simp [go_sem]); have t2 : wM.cell? ⟨W2.heap.size, 8, none⟩ = some (.int .i64 0) := (hbM.cell (p := ⟨W2.heap.size, 8, none⟩) (by simp)).trans (by simp [go_sem])))
      go_meet
      go_light
      refine ⟨_, 3, 0, 0, rfl, by simp [go_sem, *], by simp [go_sem, *], by simp [go_sem, *], by simp, Lib.hid (by decide), ?_⟩
      repeat' (first | with_reducible exact Below.refl _ _ | with_reducible refine Below.drew ?_ | with_reducible refine below_drewN ?_ _ | with_reducible refine Below.alloc ?_ (by first | omega | (simp <;> omega)) _ | with_reducible refine Below.setCell ?_ (by first | omega | (dsimp only; omega) | (simp <;> omega)) _ | with_reducible refine Below.trans ?_ (Below.mono (by assumption) (by first | omega | (simp <;> omega))))
    · go_wp2_with ((go_at_call 21; refine (qM _).mono ?_; rintro en wM ⟨rfl, hbM⟩; have hsM := hbM.size; (simp at hsM); have t0 : wM.cell? ⟨W2.heap.size, 9, none⟩ = some (.int .i64 2) := (hbM.cell (p := ⟨W2.heap.size, 9, none⟩) (by simp)).trans (by simp [go_sem]); have t1 : wM.cell? ⟨W2.heap.size, 10, none⟩ = some (.int .i64 5) := (hbM.cell (p := ⟨W2.heap.size, 10, none⟩) (by simp)).trans (by simp [go_sem]); have t2 : wM.cell? ⟨W2.heap.size, 11, none⟩ = some (.int .i64 0) := (hbM.cell (p := ⟨W2.heap.size, 11, none⟩) (by simp)).trans (by simp [go_sem])))
      go_meet
      go_light
      refine ⟨_, 2, 5, 0, rfl, by simp [go_sem, *], by simp [go_sem, *], by simp [go_sem, *], by simp, Lib.hid (by decide), ?_⟩
      repeat' (first | with_reducible exact Below.refl _ _ | with_reducible refine Below.drew ?_ | with_reducible refine below_drewN ?_ _ | with_reducible refine Below.alloc ?_ (by first | omega | (simp <;> omega)) _ | with_reducible refine Below.setCell ?_ (by first | omega | (dsimp only; omega) | (simp <;> omega)) _ | with_reducible refine Below.trans ?_ (Below.mono (by assumption) (by first | omega | (simp <;> omega))))
    · go_wp2_with ((go_at_call 21; refine (qM _).mono ?_; rintro en wM ⟨rfl, hbM⟩; have hsM := hbM.size; (simp at hsM); have t0 : wM.cell? ⟨W2.heap.size, 12, none⟩ = some (.int .i64 7) := (hbM.cell (p := ⟨W2.heap.size, 12, none⟩) (by simp)).trans (by simp [go_sem]); have t1 : wM.cell? ⟨W2.heap.size, 13, none⟩ = some (.int .i64 1) := (hbM.cell (p := ⟨W2.heap.size, 13, none⟩) (by simp)).trans (by simp [go_sem]); have t2 : wM.cell? ⟨W2.heap.size, 14, none⟩ = some (.int .i64 2) := (hbM.cell (p := ⟨W2.heap.size, 14, none⟩) (by simp)).trans (by simp [go_sem])))
      go_meet
      go_light
      refine ⟨_, 7, 1, 2, rfl, by simp [go_sem, *], by simp [go_sem, *], by simp [go_sem, *], by simp, Lib.hid (by decide), ?_⟩
      repeat' (first | with_reducible exact Below.refl _ _ | with_reducible refine Below.drew ?_ | with_reducible refine below_drewN ?_ _ | with_reducible refine Below.alloc ?_ (by first | omega | (simp <;> omega)) _ | with_reducible refine Below.setCell ?_ (by first | omega | (dsimp only; omega) | (simp <;> omega)) _ | with_reducible refine Below.trans ?_ (Below.mono (by assumption) (by first | omega | (simp <;> omega))))
  case rest =>
  obtain ⟨BX, x, y, z, rfl, x0, x1, x2, lX, HCK, hbX⟩ := hcut
  have B3 : Below w.heap.size w wc := B2.trans (hbX.mono hB2s)
  have hB3s := B3.size
  clear B2 hbX hB2s qM hk2
  have hz1' : before.size ≤ 60 := hz1
  have hz2' : out.size ≤ 120 := hz2
  go_upto_region 4 with ((go_at_call 35; go_loud (refine (plan_p before out pc cs cc _ (hc.later (by repeat' (first | with_reducible exact Below.refl _ _ | with_reducible refine Below.drew ?_ | with_reducible refine below_drewN ?_ _ | with_reducible refine Below.alloc ?_ (by first | omega | (simp <;> omega)) _ | with_reducible refine Below.setCell ?_ (by first | omega | (dsimp only; omega) | (simp <;> omega)) _ | with_reducible refine Below.trans ?_ (Below.mono (by assumption) (by first | omega | (simp <;> omega)))))) nc hz1' hz2').mono ?_); rintro en wP ⟨L, D, M, a1, a2, a3, c1, c2, c3, rfl, hr1, hr2, hr3, hL12, ⟨f, hf⟩, hbP⟩; have hsP := hbP.size; have p0 : wP.cell? ⟨BX, 0, none⟩ = some (.int .i64 (x)) := (hbP.cell (p := ⟨BX, 0, none⟩) lX).trans x0; have p1 : wP.cell? ⟨BX, 1, none⟩ = some (.int .i64 (y)) := (hbP.cell (p := ⟨BX, 1, none⟩) lX).trans x1; have p2 : wP.cell? ⟨BX, 2, none⟩ = some (.int .i64 (z)) := (hbP.cell (p := ⟨BX, 2, none⟩) lX).trans x2))
  obtain ⟨e1, e2, e3⟩ := oR_get hf.1
  have hE := rof_plan hf hz1 hz2 hL12 HCK.out
  have hR := rof_back (win := 1048576) hE (by omega)
  have qO := fun w h1 h2 h3 => pof_p before out a1 L c1 a2 D c2 a3 M c3 x y z w h1 h2 h3 (by omega) (by omega) (by omega) (by omega) (by omega)
  have hQl : (Rof before out L D M x y z).1.length ≤ 9223372036854775807 := by
    obtain ⟨_, hn, _, _, _, _, _, he⟩ := rof_inv hE
    rw [he]
    dsimp only
    rw [oQs_len]
    omega
  have hSl : (Rof before out L D M x y z).2.1.size ≤ 9223372036854775807 := rof_lits hE hL12 (by omega)
  generalize Rof before out L D M x y z = R at qO hE hR hQl hSl
  obtain ⟨Q, S, ⟨u, v, t⟩, E⟩ := R
  unfold OfPost at qO
  dsimp only at qO hE hR hQl hSl
  subst hE
  have qE := fun pq cq w h1 h2 => pexec_p pq Q cq S before x y z 1048576 w h1 hQl hSl (by omega) h2
  rw [hR] at qE
  dsimp only at qE
  have HQ2 := Lib.hid hQl
  clear hR hf hQl hSl e1 e2 e3 HCK
  go_wp2_with (first | (go_at_call 31; refine (qO _ (hr1.later (by repeat' (first | with_reducible exact Below.refl _ _ | with_reducible refine Below.drew ?_ | with_reducible refine below_drewN ?_ _ | with_reducible refine Below.alloc ?_ (by first | omega | (simp <;> omega)) _ | with_reducible refine Below.setCell ?_ (by first | omega | (dsimp only; omega) | (simp <;> omega)) _ | with_reducible refine Below.trans ?_ (Below.mono (by assumption) (by first | omega | (simp <;> omega)))))) (hr2.later (by repeat' (first | with_reducible exact Below.refl _ _ | with_reducible refine Below.drew ?_ | with_reducible refine below_drewN ?_ _ | with_reducible refine Below.alloc ?_ (by first | omega | (simp <;> omega)) _ | with_reducible refine Below.setCell ?_ (by first | omega | (dsimp only; omega) | (simp <;> omega)) _ | with_reducible refine Below.trans ?_ (Below.mono (by assumption) (by first | omega | (simp <;> omega)))))) (hr3.later (by repeat' (first | with_reducible exact Below.refl _ _ | with_reducible refine Below.drew ?_ | with_reducible refine below_drewN ?_ _ | with_reducible refine Below.alloc ?_ (by first | omega | (simp <;> omega)) _ | with_reducible refine Below.setCell ?_ (by first | omega | (dsimp only; omega) | (simp <;> omega)) _ | with_reducible refine Below.trans ?_ (Below.mono (by assumption) (by first | omega | (simp <;> omega))))))).mono ?_; rintro en wO ⟨pq, cq, rfl, hQ, hbO⟩; have hsO := hbO.size; have q0 : wO.cell? ⟨BX, 0, none⟩ = some (.int .i64 (x)) := (hbO.cell (p := ⟨BX, 0, none⟩) (by dsimp only; omega)).trans p0; have q1 : wO.cell? ⟨BX, 1, none⟩ = some (.int .i64 (y)) := (hbO.cell (p := ⟨BX, 1, none⟩) (by dsimp only; omega)).trans p1; have q2 : wO.cell? ⟨BX, 2, none⟩ = some (.int .i64 (z)) := (hbO.cell (p := ⟨BX, 2, none⟩) (by dsimp only; omega)).trans p2; have lXO : BX < wO.heap.size := (by omega); have lXO2 : ¬ BX = wO.heap.size := (by omega)) | (go_at_call 17; refine (qE pq cq _ (hQ.later (by repeat' (first | with_reducible exact Below.refl _ _ | with_reducible refine Below.drew ?_ | with_reducible refine below_drewN ?_ _ | with_reducible refine Below.alloc ?_ (by first | omega | (simp <;> omega)) _ | with_reducible refine Below.setCell ?_ (by first | omega | (dsimp only; omega) | (simp <;> omega)) _ | with_reducible refine Below.trans ?_ (Below.mono (by assumption) (by first | omega | (simp <;> omega)))))) (by refine ((show Below w.heap.size w _ by repeat' (first | with_reducible exact Below.refl _ _ | with_reducible refine Below.drew ?_ | with_reducible refine below_drewN ?_ _ | with_reducible refine Below.alloc ?_ (by first | omega | (simp <;> omega)) _ | with_reducible refine Below.setCell ?_ (by first | omega | (dsimp only; omega) | (simp <;> omega)) _ | with_reducible refine Below.trans ?_ (Below.mono (by assumption) (by first | omega | (simp <;> omega))))).cell (p := ⟨0, 0, none⟩) hl0).trans hg)).mono ?_; rintro en wE ⟨rfl, hbE⟩; have hsE := hbE.size; (simp at hsE); have e0 : wE.cell? ⟨wO.heap.size, 0, none⟩ = some (.int .i64 (u)) := (hbE.cell (p := ⟨wO.heap.size, 0, none⟩) (by simp)).trans (by simp [go_sem]); have e1 : wE.cell? ⟨wO.heap.size, 1, none⟩ = some (.int .i64 (v)) := (hbE.cell (p := ⟨wO.heap.size, 1, none⟩) (by simp)).trans (by simp [go_sem]); have e2 : wE.cell? ⟨wO.heap.size, 2, none⟩ = some (.int .i64 (t)) := (hbE.cell (p := ⟨wO.heap.size, 2, none⟩) (by simp)).trans (by simp [go_sem]); have lE : wO.heap.size < wE.heap.size := (by omega); have lE2 : ¬ wO.heap.size = wE.heap.size := (by omega)) | (go_at_call 16; refine (awake_p20 _ (by refine ((show Below w.heap.size w _ by repeat' (first | with_reducible exact Below.refl _ _ | with_reducible refine Below.drew ?_ | with_reducible refine below_drewN ?_ _ | with_reducible refine Below.alloc ?_ (by first | omega | (simp <;> omega)) _ | with_reducible refine Below.setCell ?_ (by first | omega | (dsimp only; omega) | (simp <;> omega)) _ | with_reducible refine Below.trans ?_ (Below.mono (by assumption) (by first | omega | (simp <;> omega))))).cell (p := ⟨0, 0, none⟩) hl0).trans hg)).mono ?_; rintro en wa ⟨rfl, hba⟩; have hsz := hba.size; (try simp at hsz); (first | (have hbl := blater2 HA (by first | exact Nat.le_refl _ | (simp; done) | (simp; omega)) hba; obtain ⟨hcc, hff, HA, hne, hne'⟩ := hbl) | (obtain ⟨hcc, hff, HA, hne, hne'⟩ := blater1 hba)); (try simp only [World.size_alloc, World.size_setCell] at HA)))
  go_light
  refine bodyPost_ret (v := .bool true) (by simp [results, Tryd.results8, go_sem, *]) rfl ⟨rfl, ?_⟩
  repeat' (first | with_reducible exact Below.refl _ _ | with_reducible refine Below.drew ?_ | with_reducible refine below_drewN ?_ _ | with_reducible refine Below.alloc ?_ (by first | omega | (simp <;> omega)) _ | with_reducible refine Below.setCell ?_ (by first | omega | (dsimp only; omega) | (simp <;> omega)) _ | with_reducible refine Below.trans ?_ (Below.mono (by assumption) (by first | omega | (simp <;> omega))))
end Go.Proofs.YtmblpmaelglnpaaDoor
