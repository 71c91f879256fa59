/-
  The reference's Of, walked.
-/
import Derived.Test.YtmblpmaelglnpaaDoorRows
import Derived.Test.YtmblpmaelglnpaaDoorSeqOf3
import Derived.Test.YtmblpmaelglnpaaDoorGBase
import Derived.Deep.Light
import Derived.Shelf.Abstract
import Derived.Shelf.RegionOpen
import Derived.OwnWalkIn
import Derived.TacticsInMore
import Derived.LoopNIn
import Derived.LoopIn
import Derived.Deep.RegionHeld3
import Derived.Deep.CutBlock
import Derived.Deep.AppendLies
import Derived.Maps.OwnIn
import Derived.Outline
import Derived.IntWalk
import Derived.WalkMore
namespace Go.Proofs.YtmblpmaelglnpaaDoor
open Go.RowKit
set_option linter.unusedSimpArgs false
set_option linter.unusedVariables false
open Go.Shelf
attribute [local go_sem] eq23 Oper.semAt_some

theorem oR_mk {ls ds ms : List Int} (h1 : ds.length = ls.length) (h2 : ms.length = ls.length) (h : ∀ i, i < ls.length → 0 ≤ ls.getD i 0 ∧ ls.getD i 0 ≤ 131072 ∧ 1 ≤ ds.getD i 0 ∧ ds.getD i 0 ≤ 2147483648 ∧ 3 ≤ ms.getD i 0 ∧ ms.getD i 0 ≤ 131074) : oR ls ds ms = true := by
  have key : ∀ (l : List Int) (p : Int → Bool), (∀ i, i < l.length → p (l.getD i 0) = true) → l.all p = true := by
    intro l p hp
    rw [List.all_eq_true]
    intro x hx
    obtain ⟨i, hi, rfl⟩ := List.getElem_of_mem hx
    have := hp i hi
    rwa [List.getD_eq_getElem?_getD, List.getElem?_eq_getElem hi] at this
  unfold oR
  simp only [Bool.and_eq_true, decide_eq_true_eq]
  refine ⟨⟨⟨⟨h1, h2⟩, key _ _ fun i hi => ?_⟩, key _ _ fun i hi => ?_⟩, key _ _ fun i hi => ?_⟩
  · have := h i hi; simp only [Bool.and_eq_true, decide_eq_true_eq]; omega
  · have := h i (by omega); simp only [Bool.and_eq_true, decide_eq_true_eq]; omega
  · have := h i (by omega); simp only [Bool.and_eq_true, decide_eq_true_eq]; omega
theorem rof_bad {before out : ByteArray} {ls ds ms : List Int} {a b c : Int} (h : oR ls ds ms = false) : Rof before out ls ds ms a b c = ([], ⟨#[]⟩, (0, 0, 0), 2) := by unfold Rof; rw [if_pos h]
set_option maxRecDepth 100000 in
set_option maxHeartbeats 4000000 in
theorem rofr_len (before out : ByteArray) (pl : Option Addr) (ls : List Int) (cl : Nat) (pd : Option Addr) (ds : List Int) (cd : Nat) (pm : Option Addr) (ms : List Int) (cm : Nat) (a b c : Int) (w : World) (hl : Row .i64 w pl ls) (hd : Row .i64 w pd ds) (hm : Row .i64 w pm ms) (nl : ls.length ≤ 140737488355328) (nd : ds.length ≤ 140737488355328) (nm : ms.length ≤ 140737488355328) (nb : before.size ≤ 9223372036854775807) (no : out.size ≤ 9223372036854775807) (h0 : ¬ (ds.length = ls.length ∧ ms.length = ls.length)) :
    Calls Tryd.prog 32 #[.string before, .string out, .slice pl ls.length cl, .slice pd ds.length cd, .slice pm ms.length cm, .agg #[.int .i64 a, .int .i64 b, .int .i64 c]] w (OfPost (Rof before out ls ds ms a b c) w) := by
  have hR : oR ls ds ms = false := by
    cases h : oR ls ds ms with
    | false => rfl
    | true => exact absurd ⟨(oR_get h).1, (oR_get h).2.1⟩ h0
  rw [rof_bad hR]
  clear hR
  by_cases h1 : ds.length = ls.length
  · have h2 : ms.length ≠ ls.length := fun h => h0 ⟨h1, h⟩
    rw [h1]
    have g1 : ((ls.length : Int) != (ms.length : Int)) = true := by simp; omega
    clear h0 h2
    go_enter Tryd.func32, Tryd.ntmps32
    go_wp2
    refine bodyPost_ret (v := .tuple #[.slice none 0 0, .string ⟨#[]⟩, .agg #[.int .i64 0, .int .i64 0, .int .i64 0], .int .i64 2]) (by simp [results, Tryd.results32, go_sem, *]) rfl (ofPost_err _ ?_)
    repeat' (first | with_reducible exact Below.refl _ _ | with_reducible refine Below.drew ?_ | with_reducible refine below_drewN ?_ _ | with_reducible refine Below.alloc ?_ (by first | omega | (simp <;> omega)) _ | with_reducible refine Below.setCell ?_ (by first | omega | (dsimp only; omega) | (simp <;> omega)) _ | with_reducible refine Below.trans ?_ (Below.mono (by assumption) (by first | omega | (simp <;> omega))))
  · have g1 : ((ls.length : Int) != (ds.length : Int)) = true := by simp; omega
    clear h0 h1
    go_enter Tryd.func32, Tryd.ntmps32
    go_wp2
    refine bodyPost_ret (v := .tuple #[.slice none 0 0, .string ⟨#[]⟩, .agg #[.int .i64 0, .int .i64 0, .int .i64 0], .int .i64 2]) (by simp [results, Tryd.results32, go_sem, *]) rfl (ofPost_err _ ?_)
    repeat' (first | with_reducible exact Below.refl _ _ | with_reducible refine Below.drew ?_ | with_reducible refine below_drewN ?_ _ | with_reducible refine Below.alloc ?_ (by first | omega | (simp <;> omega)) _ | with_reducible refine Below.setCell ?_ (by first | omega | (dsimp only; omega) | (simp <;> omega)) _ | with_reducible refine Below.trans ?_ (Below.mono (by assumption) (by first | omega | (simp <;> omega))))
set_option maxRecDepth 100000 in
set_option maxHeartbeats 8000000 in
theorem rofr_1 (before out : ByteArray) (pl : Option Addr) (ls : List Int) (cl : Nat) (pd : Option Addr) (ds : List Int) (cd : Nat) (pm : Option Addr) (ms : List Int) (cm : Nat) (a b c : Int) (w : World) (hl : Row .i64 w pl ls) (hd : Row .i64 w pd ds) (hm : Row .i64 w pm ms) (nl : ls.length ≤ 140737488355328) (nd : ds.length ≤ 140737488355328) (nm : ms.length ≤ 140737488355328) (nb : before.size ≤ 9223372036854775807) (no : out.size ≤ 9223372036854775807) (hdl : ds.length = ls.length) (hml : ms.length = ls.length) :
    Calls Tryd.prog 32 #[.string before, .string out, .slice pl ls.length cl, .slice pd ds.length cd, .slice pm ms.length cm, .agg #[.int .i64 a, .int .i64 b, .int .i64 c]] w (OfPost (Rof before out ls ds ms a b c) w) := by
  obtain ⟨RR, hRR⟩ : ∃ R, (Rof before out ls ds ms a b c) = R := ⟨_, rfl⟩
  rw [hRR]
  have HRR := Lib.hid hRR
  have HDL := Lib.hid hdl
  have HML := Lib.hid hml
  have HLW := Lib.hid hl
  have HDW := Lib.hid hd
  have HMW := Lib.hid hm
  rw [hdl, hml]
  clear hRR hdl hml hl hd hm
  have g0 : ((ls.length : Int) != (ls.length : Int)) = false := by simp
  go_enter Tryd.func32, Tryd.ntmps32
  go_wp2
  have bA : Blk ((w.alloc (.cells #[.int .i64 a, .int .i64 b, .int .i64 c] 24)).alloc (.cells #[.int .i64 0, .int .i64 0, .int .i64 0] 24)) w.heap.size 24 [.int .i64 a, .int .i64 b, .int .i64 c] := (Blk.new w 24 #[.int .i64 a, .int .i64 b, .int .i64 c]).alloc _
  have hBZ : Blk ((w.alloc (.cells #[.int .i64 a, .int .i64 b, .int .i64 c] 24)).alloc (.cells #[.int .i64 0, .int .i64 0, .int .i64 0] 24)) (w.heap.size + 1) 24 [.int .i64 0, .int .i64 0, .int .i64 0] := by simpa using Blk.new (w.alloc (.cells #[.int .i64 a, .int .i64 b, .int .i64 c] 24)) 24 #[.int .i64 0, .int .i64 0, .int .i64 0]
  have hB : Below w.heap.size w ((w.alloc (.cells #[.int .i64 a, .int .i64 b, .int .i64 c] 24)).alloc (.cells #[.int .i64 0, .int .i64 0, .int .i64 0] 24)) := by repeat' (first | with_reducible exact Below.refl _ _ | with_reducible refine Below.drew ?_ | with_reducible refine below_drewN ?_ _ | with_reducible refine Below.alloc ?_ (by first | omega | (simp <;> omega)) _ | with_reducible refine Below.setCell ?_ (by first | omega | (dsimp only; omega) | (simp <;> omega)) _ | with_reducible refine Below.trans ?_ (Below.mono (by assumption) (by first | omega | (simp <;> omega))))
  obtain ⟨W0, hW0⟩ : ∃ W0, (w.alloc (.cells #[.int .i64 a, .int .i64 b, .int .i64 c] 24)).alloc (.cells #[.int .i64 0, .int .i64 0, .int .i64 0] 24) = W0 := ⟨_, rfl⟩
  have hs0 : w.heap.size + 2 ≤ W0.heap.size := by rw [← hW0]; simp
  obtain ⟨H, hH⟩ : ∃ x, w.heap.size = x := ⟨_, rfl⟩
  rw [hW0] at bA hBZ hB ⊢
  rw [hH] at bA hBZ hB hs0 ⊢
  have HH := Lib.hid hH
  clear hW0 hH
  go_loopw [16] (fun v wr => ∃ k : Nat, v = .int .i64 (k : Int) ∧ k ≤ ls.length ∧ Hid (∀ i, i < k → 0 ≤ ls.getD i 0 ∧ ls.getD i 0 ≤ 131072 ∧ 1 ≤ ds.getD i 0 ∧ ds.getD i 0 ≤ 2147483648 ∧ 3 ≤ ms.getD i 0 ∧ ms.getD i 0 ≤ 131074) ∧ Below W0.heap.size W0 wr) (fun v _ => ls.length - (intOf v).toNat)
  case atStart => exact ⟨0, rfl, by omega, Lib.hid (fun i hi => by omega), Below.refl _ _⟩
  case round =>
    obtain ⟨k, rfl, hk, HG, hbx⟩ := hrel
    have hBw : Below w.heap.size w wr := by rw [HH.out]; exact hB.trans (hbx.mono (by omega))
    have hbs := hbx.size
    by_cases hlt : k < ls.length
    · have hkm : k < ms.length := by rw [HML.out]; exact hlt
      have hkd : k < ds.length := by rw [HDL.out]; exact hlt
      obtain ⟨b1, o1, rfl, hbw1, hc1⟩ := HLW.out.at hlt
      have c1 := (hBw.cell (p := ⟨b1, o1 + k, none⟩) hbw1).trans (hc1 k hlt)
      have l1 : b1 < H := by rw [← HH.out]; exact hbw1
      have hb1 : b1 < wr.heap.size := by omega
      clear hbw1 hc1
      obtain ⟨b2, o2, rfl, hbw2, hc2⟩ := HMW.out.at hkm
      have c2 := (hBw.cell (p := ⟨b2, o2 + k, none⟩) hbw2).trans (hc2 k hkm)
      have l2 : b2 < H := by rw [← HH.out]; exact hbw2
      have hb2 : b2 < wr.heap.size := by omega
      clear hbw2 hc2
      obtain ⟨b3, o3, rfl, hbw3, hc3⟩ := HDW.out.at hkd
      have c3 := (hBw.cell (p := ⟨b3, o3 + k, none⟩) hbw3).trans (hc3 k hkd)
      have l3 : b3 < H := by rw [← HH.out]; exact hbw3
      have hb3 : b3 < wr.heap.size := by omega
      clear hbw3 hc3
      obtain ⟨x, hx⟩ : ∃ x, ls.getD k 0 = x := ⟨_, rfl⟩
      obtain ⟨m, hm⟩ : ∃ x, ms.getD k 0 = x := ⟨_, rfl⟩
      obtain ⟨d, hd⟩ : ∃ x, ds.getD k 0 = x := ⟨_, rfl⟩
      rw [hx] at c1
      rw [hm] at c2
      rw [hd] at c3
      have HX := Lib.hid (And.intro hx (And.intro hm hd))
      clear hx hm hd
      have i0 : (0 : Int) ≤ (k : Int) := by omega
      have i1 : (k : Int) < (ls.length : Int) := by omega
      by_cases hgood : 0 ≤ x ∧ x ≤ 131072 ∧ 1 ≤ d ∧ d ≤ 2147483648 ∧ 3 ≤ m ∧ m ≤ 131074
      · obtain ⟨q1, q2, q3, q4, q5, q6⟩ := hgood
        have HGN := Lib.hid (show ∀ i, i < k + 1 → 0 ≤ ls.getD i 0 ∧ ls.getD i 0 ≤ 131072 ∧ 1 ≤ ds.getD i 0 ∧ ds.getD i 0 ≤ 2147483648 ∧ 3 ≤ ms.getD i 0 ∧ ms.getD i 0 ≤ 131074 by
          intro i hi
          by_cases hik : i < k
          · exact HG.out i hik
          · obtain rfl : i = k := by omega
            obtain ⟨e1, e2, e3⟩ := HX.out
            rw [e1, e2, e3]
            exact ⟨q1, q2, q3, q4, q5, q6⟩)
        have g1 : decide (x < 0) = false := by simp; omega
        have g2 : decide (131072 < x) = false := by simp; omega
        have g3 : decide (d < 1) = false := by simp; omega
        have g4 : decide (2147483648 < d) = false := by simp; omega
        have g5 : decide (m < 3) = false := by simp; omega
        have g6 : decide (131074 < m) = false := by simp; omega
        clear HG q1 q2 q3 q4 q5 q6
        go_wp2
        go_roundw
        case rel => exact ⟨k + 1, by go_num, by omega, HGN, hbx⟩
        case measure => go_light; simp [intOf] <;> omega
      · have hR : oR ls ds ms = false := by
          cases h : oR ls ds ms with
          | false => rfl
          | true =>
            have := (oR_get h).2.2 k hlt
            obtain ⟨e1, e2, e3⟩ := HX.out
            rw [e1, e2, e3] at this
            exact absurd this hgood
        have hr : RR = ([], ⟨#[]⟩, (0, 0, 0), 2) := HRR.out.symm.trans (rof_bad hR)
        subst hr
        have hbad : (x < 0) ∨ (¬ x < 0 ∧ 131072 < x) ∨ (¬ x < 0 ∧ ¬ 131072 < x ∧ d < 1) ∨ (¬ x < 0 ∧ ¬ 131072 < x ∧ ¬ d < 1 ∧ 2147483648 < d) ∨ (¬ x < 0 ∧ ¬ 131072 < x ∧ ¬ d < 1 ∧ ¬ 2147483648 < d ∧ m < 3) ∨ (¬ x < 0 ∧ ¬ 131072 < x ∧ ¬ d < 1 ∧ ¬ 2147483648 < d ∧ ¬ m < 3 ∧ 131074 < m) := by omega
        clear hgood hR HG
        rcases hbad with hbad | hbad | hbad | hbad | hbad | hbad
        · have g0 : decide (x < 0) = true := by simp; omega
          clear hbad
          have z0 := hBZ.later hbx
          have zc0 := z0.cell 0
          have zc1 := z0.cell 1
          have zc2 := z0.cell 2
          have zf0 := z0.frozen 0
          have zf1 := z0.frozen 1
          have zf2 := z0.frozen 2
          have hbs := hbx.size
          clear HRR z0
          go_wp2
          (try rw [Exit.noGoto_ret])
          refine bodyPost_ret (v := .tuple #[.slice none 0 0, .string ⟨#[]⟩, .agg #[.int .i64 0, .int .i64 0, .int .i64 0], .int .i64 2]) (by simp [results, Tryd.results32, go_sem, *]) rfl (ofPost_err _ ?_)
          rw [HH.out]
          (try clear hBw)
          repeat' (first | with_reducible exact Below.refl _ _ | with_reducible refine Below.drew ?_ | with_reducible refine below_drewN ?_ _ | with_reducible refine Below.alloc ?_ (by first | omega | (simp <;> omega)) _ | with_reducible refine Below.setCell ?_ (by first | omega | (dsimp only; omega) | (simp <;> omega)) _ | with_reducible refine Below.trans ?_ (Below.mono (by assumption) (by first | omega | (simp <;> omega))))
        · have g0 : decide (x < 0) = false := by simp; omega
          have g1 : decide (131072 < x) = true := by simp; omega
          clear hbad
          have z0 := hBZ.later hbx
          have zc0 := z0.cell 0
          have zc1 := z0.cell 1
          have zc2 := z0.cell 2
          have zf0 := z0.frozen 0
          have zf1 := z0.frozen 1
          have zf2 := z0.frozen 2
          have hbs := hbx.size
          clear HRR z0
          go_wp2
          (try rw [Exit.noGoto_ret])
          refine bodyPost_ret (v := .tuple #[.slice none 0 0, .string ⟨#[]⟩, .agg #[.int .i64 0, .int .i64 0, .int .i64 0], .int .i64 2]) (by simp [results, Tryd.results32, go_sem, *]) rfl (ofPost_err _ ?_)
          rw [HH.out]
          (try clear hBw)
          repeat' (first | with_reducible exact Below.refl _ _ | with_reducible refine Below.drew ?_ | with_reducible refine below_drewN ?_ _ | with_reducible refine Below.alloc ?_ (by first | omega | (simp <;> omega)) _ | with_reducible refine Below.setCell ?_ (by first | omega | (dsimp only; omega) | (simp <;> omega)) _ | with_reducible refine Below.trans ?_ (Below.mono (by assumption) (by first | omega | (simp <;> omega))))
        · have g0 : decide (x < 0) = false := by simp; omega
          have g1 : decide (131072 < x) = false := by simp; omega
          have g2 : decide (d < 1) = true := by simp; omega
          clear hbad
          have z0 := hBZ.later hbx
          have zc0 := z0.cell 0
          have zc1 := z0.cell 1
          have zc2 := z0.cell 2
          have zf0 := z0.frozen 0
          have zf1 := z0.frozen 1
          have zf2 := z0.frozen 2
          have hbs := hbx.size
          clear HRR z0
          go_wp2
          (try rw [Exit.noGoto_ret])
          refine bodyPost_ret (v := .tuple #[.slice none 0 0, .string ⟨#[]⟩, .agg #[.int .i64 0, .int .i64 0, .int .i64 0], .int .i64 2]) (by simp [results, Tryd.results32, go_sem, *]) rfl (ofPost_err _ ?_)
          rw [HH.out]
          (try clear hBw)
          repeat' (first | with_reducible exact Below.refl _ _ | with_reducible refine Below.drew ?_ | with_reducible refine below_drewN ?_ _ | with_reducible refine Below.alloc ?_ (by first | omega | (simp <;> omega)) _ | with_reducible refine Below.setCell ?_ (by first | omega | (dsimp only; omega) | (simp <;> omega)) _ | with_reducible refine Below.trans ?_ (Below.mono (by assumption) (by first | omega | (simp <;> omega))))
        · have g0 : decide (x < 0) = false := by simp; omega
          have g1 : decide (131072 < x) = false := by simp; omega
          have g2 : decide (d < 1) = false := by simp; omega
          have g3 : decide (2147483648 < d) = true := by simp; omega
          clear hbad
          have z0 := hBZ.later hbx
          have zc0 := z0.cell 0
          have zc1 := z0.cell 1
          have zc2 := z0.cell 2
          have zf0 := z0.frozen 0
          have zf1 := z0.frozen 1
          have zf2 := z0.frozen 2
          have hbs := hbx.size
          clear HRR z0
          go_wp2
          (try rw [Exit.noGoto_ret])
          refine bodyPost_ret (v := .tuple #[.slice none 0 0, .string ⟨#[]⟩, .agg #[.int .i64 0, .int .i64 0, .int .i64 0], .int .i64 2]) (by simp [results, Tryd.results32, go_sem, *]) rfl (ofPost_err _ ?_)
          rw [HH.out]
          (try clear hBw)
          repeat' (first | with_reducible exact Below.refl _ _ | with_reducible refine Below.drew ?_ | with_reducible refine below_drewN ?_ _ | with_reducible refine Below.alloc ?_ (by first | omega | (simp <;> omega)) _ | with_reducible refine Below.setCell ?_ (by first | omega | (dsimp only; omega) | (simp <;> omega)) _ | with_reducible refine Below.trans ?_ (Below.mono (by assumption) (by first | omega | (simp <;> omega))))
        · have g0 : decide (x < 0) = false := by simp; omega
          have g1 : decide (131072 < x) = false := by simp; omega
          have g2 : decide (d < 1) = false := by simp; omega
          have g3 : decide (2147483648 < d) = false := by simp; omega
          have g4 : decide (m < 3) = true := by simp; omega
          clear hbad
          have z0 := hBZ.later hbx
          have zc0 := z0.cell 0
          have zc1 := z0.cell 1
          have zc2 := z0.cell 2
          have zf0 := z0.frozen 0
          have zf1 := z0.frozen 1
          have zf2 := z0.frozen 2
          have hbs := hbx.size
          clear HRR z0
          go_wp2
          (try rw [Exit.noGoto_ret])
          refine bodyPost_ret (v := .tuple #[.slice none 0 0, .string ⟨#[]⟩, .agg #[.int .i64 0, .int .i64 0, .int .i64 0], .int .i64 2]) (by simp [results, Tryd.results32, go_sem, *]) rfl (ofPost_err _ ?_)
          rw [HH.out]
          (try clear hBw)
          repeat' (first | with_reducible exact Below.refl _ _ | with_reducible refine Below.drew ?_ | with_reducible refine below_drewN ?_ _ | with_reducible refine Below.alloc ?_ (by first | omega | (simp <;> omega)) _ | with_reducible refine Below.setCell ?_ (by first | omega | (dsimp only; omega) | (simp <;> omega)) _ | with_reducible refine Below.trans ?_ (Below.mono (by assumption) (by first | omega | (simp <;> omega))))
        · have g0 : decide (x < 0) = false := by simp; omega
          have g1 : decide (131072 < x) = false := by simp; omega
          have g2 : decide (d < 1) = false := by simp; omega
          have g3 : decide (2147483648 < d) = false := by simp; omega
          have g4 : decide (m < 3) = false := by simp; omega
          have g5 : decide (131074 < m) = true := by simp; omega
          clear hbad
          have z0 := hBZ.later hbx
          have zc0 := z0.cell 0
          have zc1 := z0.cell 1
          have zc2 := z0.cell 2
          have zf0 := z0.frozen 0
          have zf1 := z0.frozen 1
          have zf2 := z0.frozen 2
          have hbs := hbx.size
          clear HRR z0
          go_wp2
          (try rw [Exit.noGoto_ret])
          refine bodyPost_ret (v := .tuple #[.slice none 0 0, .string ⟨#[]⟩, .agg #[.int .i64 0, .int .i64 0, .int .i64 0], .int .i64 2]) (by simp [results, Tryd.results32, go_sem, *]) rfl (ofPost_err _ ?_)
          rw [HH.out]
          (try clear hBw)
          repeat' (first | with_reducible exact Below.refl _ _ | with_reducible refine Below.drew ?_ | with_reducible refine below_drewN ?_ _ | with_reducible refine Below.alloc ?_ (by first | omega | (simp <;> omega)) _ | with_reducible refine Below.setCell ?_ (by first | omega | (dsimp only; omega) | (simp <;> omega)) _ | with_reducible refine Below.trans ?_ (Below.mono (by assumption) (by first | omega | (simp <;> omega))))
    · obtain rfl : k = ls.length := by omega
      have jj : ¬ (ls.length : Int) < (ls.length : Int) := by omega
      have hR : oR ls ds ms = true := oR_mk HDL.out HML.out HG.out
      by_cases h6 : 98303 < ls.length
      · have g6 : decide ((98303 : Int) < (ls.length : Int)) = true := by simp; omega
        have hr : RR = ([], ⟨#[]⟩, (0, 0, 0), 6) := by
          rw [← HRR.out]; unfold Rof; rw [if_neg (by rw [hR]; simp), if_pos h6]
        subst hr
        clear hR
        have z0 := hBZ.later hbx
        have zc0 := z0.cell 0
        have zc1 := z0.cell 1
        have zc2 := z0.cell 2
        have zf0 := z0.frozen 0
        have zf1 := z0.frozen 1
        have zf2 := z0.frozen 2
        have hbs := hbx.size
        clear HRR z0
        go_wp2
        (try rw [Exit.noGoto_ret])
        refine bodyPost_ret (v := .tuple #[.slice none 0 0, .string ⟨#[]⟩, .agg #[.int .i64 0, .int .i64 0, .int .i64 0], .int .i64 6]) (by simp [results, Tryd.results32, go_sem, *]) rfl (ofPost_err _ ?_)
        rw [HH.out]
        (try clear hBw)
        repeat' (first | with_reducible exact Below.refl _ _ | with_reducible refine Below.drew ?_ | with_reducible refine below_drewN ?_ _ | with_reducible refine Below.alloc ?_ (by first | omega | (simp <;> omega)) _ | with_reducible refine Below.setCell ?_ (by first | omega | (dsimp only; omega) | (simp <;> omega)) _ | with_reducible refine Below.trans ?_ (Below.mono (by assumption) (by first | omega | (simp <;> omega))))
      have g6 : decide ((98303 : Int) < (ls.length : Int)) = false := by simp; omega
      have qC := fun w => check_r a b c w
      have bA1 := bA.later hbx
      have k0 := bA1.cell 0
      have k1 := bA1.cell 1
      have k2 := bA1.cell 2
      by_cases h10 : chkL true [a, b, c] = 0
      · rw [h10] at qC
        by_cases h4 : 1048576 < before.size ∨ 131072 < out.size
        · have hr : RR = ([], ⟨#[]⟩, (0, 0, 0), 4) := by
            rw [← HRR.out]; unfold Rof; rw [if_neg (by rw [hR]; simp), if_neg h6, if_neg (by simpa using h10), if_pos h4]
          subst hr
          have h5 : (decide ((1048576 : Int) < (before.size : Int)) = true) ∨ (decide ((1048576 : Int) < (before.size : Int)) = false ∧ decide ((131072 : Int) < (out.size : Int)) = true) := by
            by_cases h : 1048576 < before.size
            · exact .inl (by simp; omega)
            · exact .inr ⟨by simp; omega, by simp; omega⟩
          clear hR h4 h6 h10 HRR
          rcases h5 with g4 | ⟨g4, g5⟩
          all_goals
            go_wp2_with (go_at_call 66; refine (qC _).mono ?_; rintro en wC ⟨rfl, hbC⟩; have hsC := hbC.size; have z0 := (hBZ.later hbx).later hbC; have zc0 := z0.cell 0; have zc1 := z0.cell 1; have zc2 := z0.cell 2; have zf0 := z0.frozen 0; have zf1 := z0.frozen 1; have zf2 := z0.frozen 2)
            refine bodyPost_ret (v := .tuple #[.slice none 0 0, .string ⟨#[]⟩, .agg #[.int .i64 0, .int .i64 0, .int .i64 0], .int .i64 4]) (by simp [results, Tryd.results32, go_sem, *]) rfl (ofPost_err _ ?_)
            rw [HH.out]
            clear hBw
            repeat' (first | with_reducible exact Below.refl _ _ | with_reducible refine Below.drew ?_ | with_reducible refine below_drewN ?_ _ | with_reducible refine Below.alloc ?_ (by first | omega | (simp <;> omega)) _ | with_reducible refine Below.setCell ?_ (by first | omega | (dsimp only; omega) | (simp <;> omega)) _ | with_reducible refine Below.trans ?_ (Below.mono (by assumption) (by first | omega | (simp <;> omega))))
        · have g4 : decide ((1048576 : Int) < (before.size : Int)) = false := by simp; omega
          have g5 : decide ((131072 : Int) < (out.size : Int)) = false := by simp; omega
          have hrr := HRR.out
          unfold Rof at hrr
          rw [if_neg (by rw [hR]; simp), if_neg h6, if_neg (by simpa using h10), if_neg h4] at hrr
          have HRRB := Lib.hid hrr
          have HSQ := Lib.hid (show ∀ k, k < ls.length → oAt before.size ls ms (k + 1) = oAt before.size ls ms k + (ls.getD k 0).toNat + (ms.getD k 0).toNat from fun k _ => rfl)
          have hn98 : ls.length ≤ 98303 := by omega
          have hbs2 : before.size ≤ 1048576 := by omega
          have hos2 : out.size ≤ 131072 := by omega
          clear hrr hR h10 h4 h6 HRR
          go_wp2_with (go_at_call 66; refine (qC _).mono ?_; rintro en wC ⟨rfl, hbC⟩; have hsC := hbC.size)
          have hBC : Below H w wC := (hB.trans (hbx.mono (by omega))).trans (hbC.mono (by omega))
          have bA2 := Lib.hid (bA1.later hbC)
          have bZ2 := Lib.hid ((hBZ.later hbx).later hbC)
          have hCt : H + 2 ≤ wC.heap.size := by omega
          clear hbC hsC k0 k1 k2 bA1 bA hBZ hB hBw hbx hbs hs0 qC g4 g5 g6
          go_loopw [18, 19] (fun v18 v19 wr => ∃ (k : Nat) (n : Int), v19 = .int .i64 (k : Int) ∧ k ≤ ls.length ∧ v18 = .int .i64 n ∧ Hid (n = (oAt before.size ls ms k : Int) - before.size) ∧ 0 ≤ n ∧ n ≤ 262146 * (k : Int) ∧ Below wC.heap.size wC wr) (fun _ v _ => ls.length - (intOf v).toNat)
          case atStart => exact ⟨0, 0, rfl, by omega, rfl, Lib.hid (by simp [oAt]), by omega, by omega, Below.refl _ _⟩
          case round =>
            obtain ⟨k, n, rfl, hk, rfl, HN, hn0, hn1, hb⟩ := hrel
            have hBw : Below w.heap.size w wr := by rw [HH.out]; exact hBC.trans (hb.mono (by omega))
            have hbs := hb.size
            by_cases hlt : k < ls.length
            · have hkm : k < ms.length := by rw [HML.out]; exact hlt
              obtain ⟨b1, o1, rfl, hbw1, hc1⟩ := HLW.out.at hlt
              have c1 := (hBw.cell (p := ⟨b1, o1 + k, none⟩) hbw1).trans (hc1 k hlt)
              have l1 : b1 < H := by rw [← HH.out]; exact hbw1
              have hb1 : b1 < wr.heap.size := by omega
              clear hbw1 hc1
              obtain ⟨b2, o2, rfl, hbw2, hc2⟩ := HMW.out.at hkm
              have c2 := (hBw.cell (p := ⟨b2, o2 + k, none⟩) hbw2).trans (hc2 k hkm)
              have l2 : b2 < H := by rw [← HH.out]; exact hbw2
              have hb2 : b2 < wr.heap.size := by omega
              clear hbw2 hc2
              obtain ⟨q1, q2, q3, q4, q5, q6⟩ := HG.out k hlt
              have hs := HSQ.out k hlt
              generalize ls.getD k 0 = x at c1 q1 q2 hs
              generalize ms.getD k 0 = m at c2 q5 q6 hs
              have i0 : (0 : Int) ≤ (k : Int) := by omega
              have i1 : (k : Int) < (ls.length : Int) := by omega
              have hfin : n + x + m = (oAt before.size ls ms (k + 1) : Int) - before.size := by
                have h1 := HN.out
                rw [hs]
                omega
              have HF := Lib.hid hfin
              have w1 : IntKind.i64.wrap (n + x) = n + x := IntWalk.i64_in _ (by omega)
              have w2 : IntKind.i64.wrap (n + x + m) = n + x + m := IntWalk.i64_in _ (by omega)
              clear hs hfin q3 q4
              go_wp2
              go_quiet (fail)
              go_wp2
              go_roundw
              case rel => exact ⟨k + 1, _, by go_num, by omega, rfl, HF, by omega, by omega, below_drewN hb _⟩
              case measure => go_light; simp [intOf] <;> omega
            · obtain rfl : k = ls.length := by omega
              have jj : ¬ (ls.length : Int) < (ls.length : Int) := by omega
              by_cases h24 : before.size + out.size < oAt before.size ls ms ls.length
              · have hcmp : decide ((out.size : Int) < n) = true := by
                  have h1 := HN.out
                  simp
                  omega
                have hr : RR = ([], ⟨#[]⟩, (0, 0, 0), 24) := by rw [← HRRB.out, if_pos h24]
                subst hr
                have z0 := bZ2.out.later hb
                have zc0 := z0.cell 0
                have zc1 := z0.cell 1
                have zc2 := z0.cell 2
                have zf0 := z0.frozen 0
                have zf1 := z0.frozen 1
                have zf2 := z0.frozen 2
                clear HRRB h24 z0
                go_wp2
                (try rw [Exit.noGoto_ret])
                refine bodyPost_ret (v := .tuple #[.slice none 0 0, .string ⟨#[]⟩, .agg #[.int .i64 0, .int .i64 0, .int .i64 0], .int .i64 24]) (by simp [results, Tryd.results32, go_sem, *]) rfl (ofPost_err _ ?_)
                rw [HH.out]
                clear hBw
                repeat' (first | with_reducible exact Below.refl _ _ | with_reducible refine Below.drew ?_ | with_reducible refine below_drewN ?_ _ | with_reducible refine Below.alloc ?_ (by first | omega | (simp <;> omega)) _ | with_reducible refine Below.setCell ?_ (by first | omega | (dsimp only; omega) | (simp <;> omega)) _ | with_reducible refine Below.trans ?_ (Below.mono (by assumption) (by first | omega | (simp <;> omega))))
              · have hcmp : decide ((out.size : Int) < n) = false := by
                  have h1 := HN.out
                  simp
                  omega
                have hRR := HRRB.out
                rw [if_neg h24] at hRR
                have HRR2 := Lib.hid hRR
                have h24' : oAt before.size ls ms ls.length ≤ before.size + out.size := by omega
                clear hRR HRRB h24
                obtain ⟨all, hall⟩ : ∃ x, before ++ out = x := ⟨_, rfl⟩
                have hcat : ∀ X, (Op.stringOp .add before out).run Tryd.prog X = .ok (.string all) X := fun X => by rw [← hall]; exact run_string_add_sum X _ _ (by omega)
                have hsz : all.size = before.size + out.size := by rw [← hall, ByteArray.size_append]
                rw [hall] at HRR2
                have hOm : ∀ i, i ≤ ls.length → oAt before.size ls ms i ≤ all.size := fun i hi => by
                  have := oAt_mono before.size ls ms i (ls.length - i)
                  rw [show i + (ls.length - i) = ls.length by omega] at this
                  omega
                have HOM := Lib.hid hOm
                have bA3 := bA2.out.later hb
                have bZ3 := bZ2.out.later hb
                have B3 : Below H w wr := hBC.trans (hb.mono (by omega))
                have hZt : H + 2 ≤ wr.heap.size := by omega
                obtain ⟨i3, hi3, hz0, hz1, hz2⟩ := info_parts infoSeq
                clear h24' hOm hall hb bA2 bZ2 hBC hCt HN hBw hbs
                obtain ⟨wo, hwo⟩ : ∃ wo : World, wo = wr := ⟨_, rfl⟩
                subst hwo
                go_wp2
                clear hcmp hcat
                go_loopw [21, 22, 23, 24] (fun v19 v13 v12 v105 wr => ∃ (k : Nat) (pq : Option Addr) (cq p : Nat) (L : ByteArray), v105 = .int .i64 (k : Int) ∧ k ≤ ls.length ∧ v12 = .slice pq k cq ∧ v13 = .string L ∧ v19 = .int .i64 (p : Int) ∧ Hid (L = oL all before.size ls ms k) ∧ Hid (p = oAt before.size ls ms k) ∧ Hid (∀ i, i < k → oFit all before.size ls ds ms i = true) ∧
                    wr.ownsRow (H + 2) 35 3 (.slice pq k cq) k (flat (oQs ls ds ms (a, b, c) k)) ∧ Blk wr H 24 [.int .i64 (oH ls ds (a, b, c) k).1, .int .i64 (oH ls ds (a, b, c) k).2.1, .int .i64 (oH ls ds (a, b, c) k).2.2] ∧ Blk wr (H + 1) 24 [.int .i64 0, .int .i64 0, .int .i64 0] ∧ Below H w wr ∧ H + 2 ≤ wr.heap.size) (fun _ _ _ v _ => ls.length - (intOf v).toNat)
                case atStart => exact ⟨0, none, 0, before.size, ⟨#[]⟩, rfl, by omega, rfl, rfl, rfl, Lib.hid rfl, Lib.hid rfl, Lib.hid (fun i hi => by omega), World.ownsRow_nil _ _ _ _, bA3, bZ3, B3, hZt⟩
                case round =>
                  clear bA3 bZ3 B3 hZt
                  obtain ⟨k, pq, cq, p, L, rfl, hk, rfl, rfl, rfl, HL, HP, HF, hown, hBA, hBZ, hB, hZt⟩ := hrel
                  have hBw : Below w.heap.size w wr := by rw [HH.out]; exact hB
                  by_cases hlt : k < ls.length
                  · have hkm : k < ms.length := by rw [HML.out]; exact hlt
                    have hkd : k < ds.length := by rw [HDL.out]; exact hlt
                    obtain ⟨b1, o1, rfl, hbw1, hc1⟩ := HLW.out.at hlt
                    obtain ⟨b2, o2, rfl, hbw2, hc2⟩ := HMW.out.at hkm
                    obtain ⟨b3, o3, rfl, hbw3, hc3⟩ := HDW.out.at hkd
                    have c1 := (hBw.cell (p := ⟨b1, o1 + k, none⟩) hbw1).trans (hc1 k hlt)
                    have l1 : b1 < H := by rw [← HH.out]; exact hbw1
                    have hb1 : b1 < wr.heap.size := by omega
                    have c2 := (hBw.cell (p := ⟨b2, o2 + k, none⟩) hbw2).trans (hc2 k hkm)
                    have l2 : b2 < H := by rw [← HH.out]; exact hbw2
                    have hb2 : b2 < wr.heap.size := by omega
                    have c3 := (hBw.cell (p := ⟨b3, o3 + k, none⟩) hbw3).trans (hc3 k hkd)
                    have l3 : b3 < H := by rw [← HH.out]; exact hbw3
                    have hb3 : b3 < wr.heap.size := by omega
                    clear hbw1 hbw2 hbw3
                    obtain ⟨q1, q2, q3, q4, q5, q6⟩ := HG.out k hlt
                    have hsq := HSQ.out k hlt
                    have hle := HOM.out (k + 1) (by omega)
                    have hLle := oL_le all before.size ls ms k
                    have hLn : oL all before.size ls ms (k + 1) = L ++ all.extract p (p + (ls.getD k 0).toNat) := by rw [HL.out, HP.out]; rfl
                    have hfit : oFit all before.size ls ds ms k = true ↔ ((ds.getD k 0).toNat ≤ oAt before.size ls ms k + (ls.getD k 0).toNat ∧ ∀ i, i < (ms.getD k 0).toNat → byt all (oAt before.size ls ms k + (ls.getD k 0).toNat + i) = byt all (oAt before.size ls ms k + (ls.getD k 0).toNat + i - (ds.getD k 0).toNat)) := ⟨oFit_get, fun h => oFit_mk h.1 h.2⟩
                    rw [← HP.out] at hfit
                    have hQn : oQs ls ds ms (a, b, c) (k + 1) = oQs ls ds ms (a, b, c) k ++ [(ls.getD k 0, ms.getD k 0, (Rval (oH ls ds (a, b, c) k).1 (oH ls ds (a, b, c) k).2.1 (oH ls ds (a, b, c) k).2.2 (ds.getD k 0) (ls.getD k 0)).1)] := oQs_succ _ _ _ _ _
                    have hHn : oH ls ds (a, b, c) (k + 1) = (Rask (oH ls ds (a, b, c) k).1 (oH ls ds (a, b, c) k).2.1 (oH ls ds (a, b, c) k).2.2 (Rval (oH ls ds (a, b, c) k).1 (oH ls ds (a, b, c) k).2.1 (oH ls ds (a, b, c) k).2.2 (ds.getD k 0) (ls.getD k 0)).1 (ls.getD k 0)).2.1 := rfl
                    rw [← HP.out] at hsq
                    rw [← HL.out, ← HP.out] at hLle
                    obtain ⟨x, hx⟩ : ∃ x : Nat, ls.getD k 0 = (x : Int) := ⟨(ls.getD k 0).toNat, by omega⟩
                    obtain ⟨m, hm⟩ : ∃ x : Nat, ms.getD k 0 = (x : Int) := ⟨(ms.getD k 0).toNat, by omega⟩
                    obtain ⟨d, hd⟩ : ∃ x : Nat, ds.getD k 0 = (x : Int) := ⟨(ds.getD k 0).toNat, by omega⟩
                    obtain ⟨⟨h1, h2, h3⟩, hh⟩ : ∃ h, oH ls ds (a, b, c) k = h := ⟨_, rfl⟩
                    rw [hh] at hBA hQn hHn
                    dsimp only at hBA hQn hHn
                    rw [hx] at c1 q1 q2 hsq hLn hfit hQn hHn
                    rw [hm] at c2 q5 q6 hsq hfit hQn
                    rw [hd] at c3 q3 q4 hfit hQn hHn
                    simp only [Int.toNat_natCast] at hsq hLn hfit
                    have qV := fun w => value_r h1 h2 h3 (d : Int) (x : Int) w
                    obtain ⟨⟨v, ve⟩, hv⟩ : ∃ V, Rval h1 h2 h3 (d : Int) (x : Int) = V := ⟨_, rfl⟩
                    rw [hv] at qV hQn hHn
                    dsimp only at qV hQn hHn
                    have qX := fun w => next_r h1 h2 h3 v (x : Int) w
                    obtain ⟨⟨rd, ⟨x', y', z'⟩, re⟩, hre⟩ : ∃ V, Rask h1 h2 h3 v (x : Int) = V := ⟨_, rfl⟩
                    rw [hre] at qX hHn
                    dsimp only at qX hHn
                    obtain ⟨q, hq⟩ : ∃ q, p + x = q := ⟨_, rfl⟩
                    rw [hq] at hsq hLn hfit
                    obtain ⟨T2, hT2⟩ : ∃ T, L ++ all.extract p q = T := ⟨_, rfl⟩
                    have hcat2 : ∀ X, (Op.stringOp .add L (all.extract p q)).run Tryd.prog X = .ok (.string T2) X := fun X => by rw [← hT2]; exact run_string_add_sum X _ _ (by rw [ByteArray.size_extract]; omega)
                    rw [hT2] at hLn
                    have HLN := Lib.hid hLn
                    have HFT := Lib.hid hfit
                    have HQN := Lib.hid hQn
                    have HHN := Lib.hid hHn
                    have HSN := Lib.hid hsq
                    have C1 := Lib.hid c1
                    have C2 := Lib.hid c2
                    have C3 := Lib.hid c3
                    have i0 : (0 : Int) ≤ (k : Int) := by omega
                    have i1 : (k : Int) < (ls.length : Int) := by omega
                    have i0p : (0 : Int) ≤ (p : Int) := by omega
                    have w1 : IntKind.i64.wrap ((p : Int) + (x : Int)) = (q : Int) := by rw [IntWalk.i64_in _ (by omega)]; omega
                    have i2 : (p : Int) ≤ (q : Int) := by omega
                    have i3' : (q : Int) ≤ (all.size : Int) := by omega
                    have jd : (k : Int) < (ds.length : Int) := by omega
                    have jm : (k : Int) < (ms.length : Int) := by omega
                    have hqm : q + m ≤ all.size := by omega
                    have hall2 : all.size ≤ 1179648 := by omega
                    have hm3 : 3 ≤ m := by omega
                    have hm4 : m ≤ 131074 := by omega
                    have hd3 : 1 ≤ d := by omega
                    clear hc1 hc2 hc3 q1 q2 q3 q4 q5 q6 hsq hle hLle hLn hfit hQn hHn hx hm hd hT2 hq c1 c2 c3 hh hv hre
                    have c1 := C1.out
                    have c2 := C2.out
                    have c3 := C3.out
                    go_wp2
                    go_quiet (fail)
                    go_wp2
                    obtain ⟨wq, hwq⟩ : ∃ wq : World, wq = wr := ⟨_, rfl⟩
                    subst hwq
                    clear c1 c2 c3
                    go_loopw [25] (fun v wi => ∃ j : Nat, v = .int .i64 (j : Int) ∧ j ≤ m ∧ Hid (∀ i, i < j → byt all (q + i) = byt all (q + i - d)) ∧ (0 < j → d ≤ q) ∧ Below wq.heap.size wq wi) (fun v _ => m - (intOf v).toNat)
                    case atStart => exact ⟨0, rfl, by omega, Lib.hid (fun i hi => by omega), by omega, below_drewN (Below.refl _ _) _⟩
                    case round =>
                      obtain ⟨j, rfl, hj, HE, hjd, hbi⟩ := hrel
                      have c2 := (hbi.cell (p := ⟨b2, o2 + k, none⟩) hb2).trans C2.out
                      have c3 := (hbi.cell (p := ⟨b3, o3 + k, none⟩) hb3).trans C3.out
                      by_cases hjm : j < m
                      · have i4 : (j : Int) < (m : Int) := by omega
                        by_cases hdq : d ≤ q
                        · have g1 : decide ((q : Int) < (d : Int)) = false := by simp; omega
                          have g1n : decide (q < d) = false := by simp; omega
                          obtain ⟨u, hu⟩ : ∃ u, q + j = u := ⟨_, rfl⟩
                          obtain ⟨v, hv⟩ : ∃ v, u - d = v := ⟨_, rfl⟩
                          have hus : u < all.size := by omega
                          have hvs : v < all.size := by omega
                          have w3 : IntKind.i64.wrap ((q : Int) + (j : Int)) = (u : Int) := by rw [IntWalk.i64_in _ (by omega)]; omega
                          have w4 : IntKind.i64.wrap ((u : Int) - (d : Int)) = (v : Int) := by rw [IntWalk.i64_in _ (by omega)]; omega
                          have i5 : (0 : Int) ≤ (u : Int) := by omega
                          have i6 : (u : Int) < (all.size : Int) := by omega
                          have i7 : (0 : Int) ≤ (v : Int) := by omega
                          have i8 : (v : Int) < (all.size : Int) := by omega
                          obtain ⟨e1, he1⟩ : ∃ e1 : Nat, (all[u]'hus).toNat = e1 := ⟨_, rfl⟩
                          obtain ⟨e2, he2⟩ : ∃ e2 : Nat, (all[v]'hvs).toNat = e2 := ⟨_, rfl⟩
                          have HB1 := Lib.hid (byt_get hus he1)
                          have HB2 := Lib.hid (byt_get hvs he2)
                          have HU := Lib.hid hu
                          have HV := Lib.hid hv
                          clear hu hv
                          by_cases hee : e1 = e2
                          · have g2 : ((e1 : Int) != (e2 : Int)) = false := by simp; omega
                            have g2n : (e1 != e2) = false := by simp; omega
                            go_wp2
                            go_quiet (fail)
                            go_wp2
                            go_roundw
                            case rel =>
                              refine ⟨j + 1, by go_num, by omega, Lib.hid (fun i hi => ?_), fun _ => hdq, below_drewN hbi _⟩
                              by_cases hij : i < j
                              · exact HE.out i hij
                              · obtain rfl : i = j := by omega
                                rw [HU.out, HV.out, HB1.out, HB2.out, hee]
                            case measure => go_light; simp [intOf] <;> omega
                          · have g2 : ((e1 : Int) != (e2 : Int)) = true := by simp; omega
                            have g2n : (e1 != e2) = true := by simp; omega
                            have hnf : oFit all before.size ls ds ms k = false := by
                              cases hof : oFit all before.size ls ds ms k with
                              | false => rfl
                              | true =>
                                have := (HFT.out.1 hof).2 j hjm
                                rw [HU.out, HV.out, HB1.out, HB2.out] at this
                                exact absurd this hee
                            have HNF := Lib.hid hnf
                            clear hnf hee HE hjd HU HV HB1 HB2
                            have hr : RR = ([], ⟨#[]⟩, (0, 0, 0), 25) := by
                              rw [← HRR2.out, if_pos]
                              rw [List.all_eq_false]
                              exact ⟨k, List.mem_range.2 hlt, by rw [HNF.out]; simp⟩
                            subst hr
                            have z0 := hBZ.later hbi
                            have zc0 := z0.cell 0
                            have zc1 := z0.cell 1
                            have zc2 := z0.cell 2
                            have zf0 := z0.frozen 0
                            have zf1 := z0.frozen 1
                            have zf2 := z0.frozen 2
                            have hbs := hbi.size
                            clear HRR2 z0
                            go_wp2
                            go_quiet (fail)
                            go_wp2
                            (try rw [Exit.noGoto_ret])
                            refine bodyPost_ret (v := .tuple #[.slice none 0 0, .string ⟨#[]⟩, .agg #[.int .i64 0, .int .i64 0, .int .i64 0], .int .i64 25]) (by simp [results, Tryd.results32, go_sem, *]) rfl (ofPost_err _ ?_)
                            rw [HH.out]
                            clear hBw
                            repeat' (first | with_reducible exact Below.refl _ _ | with_reducible refine Below.drew ?_ | with_reducible refine below_drewN ?_ _ | with_reducible refine Below.alloc ?_ (by first | omega | (simp <;> omega)) _ | with_reducible refine Below.setCell ?_ (by first | omega | (dsimp only; omega) | (simp <;> omega)) _ | with_reducible refine Below.trans ?_ (Below.mono (by assumption) (by first | omega | (simp <;> omega))))
                        · have g1 : decide ((q : Int) < (d : Int)) = true := by simp; omega
                          have g1n : decide (q < d) = true := by simp; omega
                          have hnf : oFit all before.size ls ds ms k = false := by
                            cases hof : oFit all before.size ls ds ms k with
                            | false => rfl
                            | true => exact absurd (HFT.out.1 hof).1 hdq
                          have HNF := Lib.hid hnf
                          clear hnf HE hjd hdq
                          have hr : RR = ([], ⟨#[]⟩, (0, 0, 0), 25) := by
                            rw [← HRR2.out, if_pos]
                            rw [List.all_eq_false]
                            exact ⟨k, List.mem_range.2 hlt, by rw [HNF.out]; simp⟩
                          subst hr
                          have z0 := hBZ.later hbi
                          have zc0 := z0.cell 0
                          have zc1 := z0.cell 1
                          have zc2 := z0.cell 2
                          have zf0 := z0.frozen 0
                          have zf1 := z0.frozen 1
                          have zf2 := z0.frozen 2
                          have hbs := hbi.size
                          clear HRR2 z0
                          go_wp2
                          go_quiet (fail)
                          go_wp2
                          (try rw [Exit.noGoto_ret])
                          refine bodyPost_ret (v := .tuple #[.slice none 0 0, .string ⟨#[]⟩, .agg #[.int .i64 0, .int .i64 0, .int .i64 0], .int .i64 25]) (by simp [results, Tryd.results32, go_sem, *]) rfl (ofPost_err _ ?_)
                          rw [HH.out]
                          clear hBw
                          repeat' (first | with_reducible exact Below.refl _ _ | with_reducible refine Below.drew ?_ | with_reducible refine below_drewN ?_ _ | with_reducible refine Below.alloc ?_ (by first | omega | (simp <;> omega)) _ | with_reducible refine Below.setCell ?_ (by first | omega | (dsimp only; omega) | (simp <;> omega)) _ | with_reducible refine Below.trans ?_ (Below.mono (by assumption) (by first | omega | (simp <;> omega))))
                      · obtain rfl : m = j := by omega
                        have jj : ¬ (m : Int) < (m : Int) := by omega
                        have hfk : oFit all before.size ls ds ms k = true := HFT.out.2 ⟨hjd (by omega), HE.out⟩
                        have HFK := Lib.hid hfk
                        have c1 := (hbi.cell (p := ⟨b1, o1 + k, none⟩) hb1).trans C1.out
                        have hBA2 := hBA.later hbi
                        have hBZ2 := hBZ.later hbi
                        have HO2 := Lib.hid (ownsRow_later hown hbi)
                        have hB2 : Below H w wr := hB.trans (hbi.mono (by omega))
                        have hs2 := hbi.size
                        have hZt2 : H + 2 ≤ wr.heap.size := by omega
                        have k1 : b1 < wr.heap.size := by omega
                        have k2 : b2 < wr.heap.size := by omega
                        have k3 : b3 < wr.heap.size := by omega
                        have a0 := hBA2.cell 0
                        have a1 := hBA2.cell 1
                        have a2 := hBA2.cell 2
                        clear hfk HE hjd hBA hBZ hown hB hBw hbi hs2 hb1 hb2 hb3 hZt HFT
                        have C1 := Lib.hid c1
                        have C2 := Lib.hid c2
                        have C3 := Lib.hid c3
                        have lH := hBA2.lt
                        go_wp2
                        go_cut [26, 27] from 190 to 202 (fun s22 s23 wx => s22 = .int .i64 v ∧ s23 = .int .i64 ve ∧ Below wr.heap.size wr wx)
                        case first =>
                          go_region_held3 (fun w' => w'.cell? ⟨H, 0, none⟩ = some (.int .i64 h1) ∧ w'.cell? ⟨H, 1, none⟩ = some (.int .i64 h2) ∧ w'.cell? ⟨H, 2, none⟩ = some (.int .i64 h3) ∧ w'.cell? ⟨b3, o3 + k, none⟩ = some (.int .i64 (d : Int)) ∧ w'.cell? ⟨b1, o1 + k, none⟩ = some (.int .i64 (x : Int))) (first | (simp [go_sem, *]; done) | go_keep) ((go_at_call 76; refine (qV _).mono ?_; rintro en wv ⟨rfl, hbv⟩; have hsv := hbv.size; (try simp at hsv); have m0 : wv.cell? ⟨H, 0, none⟩ = some (.int .i64 h1) := (hbv.cell (p := ⟨H, 0, none⟩) (by simp; omega)).trans (by simp [go_sem, *]); have m1 : wv.cell? ⟨H, 1, none⟩ = some (.int .i64 h2) := (hbv.cell (p := ⟨H, 1, none⟩) (by simp; omega)).trans (by simp [go_sem, *]); have m2 : wv.cell? ⟨H, 2, none⟩ = some (.int .i64 h3) := (hbv.cell (p := ⟨H, 2, none⟩) (by simp; omega)).trans (by simp [go_sem, *]); have m3 : wv.cell? ⟨b3, o3 + k, none⟩ = some (.int .i64 (d : Int)) := (hbv.cell (p := ⟨b3, o3 + k, none⟩) (by simp; omega)).trans (by simp [go_sem, *]); have m4 : wv.cell? ⟨b1, o1 + k, none⟩ = some (.int .i64 (x : Int)) := (hbv.cell (p := ⟨b1, o1 + k, none⟩) (by simp; omega)).trans (by simp [go_sem, *])))
                          all_goals (go_wp2_with fail; go_meet; go_light)
                          all_goals
                            refine ⟨rfl, rfl, ?_⟩
                            repeat' (first | with_reducible exact Below.refl _ _ | with_reducible refine Below.drew ?_ | with_reducible refine below_drewN ?_ _ | with_reducible refine Below.alloc ?_ (by first | omega | (simp <;> omega)) _ | with_reducible refine Below.setCell ?_ (by first | omega | (dsimp only; omega) | (simp <;> omega)) _ | with_reducible refine Below.trans ?_ (Below.mono (by assumption) (by first | omega | (simp <;> omega))))
                        case rest =>
                          obtain ⟨rfl, rfl, hbv⟩ := hcut
                          have c1 := (hbv.cell (p := ⟨b1, o1 + k, none⟩) k1).trans C1.out
                          have c2 := (hbv.cell (p := ⟨b2, o2 + k, none⟩) k2).trans C2.out
                          have c3 := (hbv.cell (p := ⟨b3, o3 + k, none⟩) k3).trans C3.out
                          have hBA3 := hBA2.later hbv
                          have hBZ3 := hBZ2.later hbv
                          have HO3 := Lib.hid (ownsRow_later HO2.out hbv)
                          have hB3 : Below H w wc := hB2.trans (hbv.mono (by omega))
                          have hs3 := hbv.size
                          have hZt3 : H + 2 ≤ wc.heap.size := by omega
                          have n1 : b1 < wc.heap.size := by omega
                          have n2 : b2 < wc.heap.size := by omega
                          have n3 : b3 < wc.heap.size := by omega
                          have a0 := hBA3.cell 0
                          have a1 := hBA3.cell 1
                          have a2 := hBA3.cell 2
                          have lH := hBA3.lt
                          clear hBA2 hBZ2 HO2 hB2 hbv hs3 k1 k2 k3 hZt2 C1 C2 C3 qV
                          have C1 := Lib.hid c1
                          have C2 := Lib.hid c2
                          go_wp2
                          go_cut [203] from 204 to 212 (fun s171 wx => Blk wx H 24 [.int .i64 x', .int .i64 y', .int .i64 z'] ∧ But (fun k => k = H) wc wx)
                          case first =>
                            have e1 : ¬ b1 = H := by omega
                            have e2 : ¬ H = b1 := by omega
                            go_region_with (go_at_call 22; refine (qX _).mono ?_; rintro en wv ⟨rfl, hbv⟩; have hsv := hbv.size; (try simp at hsv); have t5 := (show Blk _ H 24 [.int .i64 h1, .int .i64 h2, .int .i64 h3] by first | exact hBA3 | exact hBA3.later (Below.refl _ _).drew).later hbv; have t0 := t5.cell 0; have t1 := t5.cell 1; have t2 := t5.cell 2; have t3 := t5.frozen 0; have t4 := t5.frozen 1; have t6 := t5.frozen 2; skip)
                            all_goals (go_wp2_with fail; go_meet; go_light)
                            all_goals (refine ⟨by first | exact ((t5.set 0 _).set 1 _).set 2 _ | exact (((t5.set 0 _).set 1 _).set 2 _).later (Below.refl _ _).drew, ?_⟩; exact (But.of_below (by repeat' (first | with_reducible exact Below.refl _ _ | with_reducible refine Below.drew ?_ | with_reducible refine below_drewN ?_ _ | with_reducible refine Below.alloc ?_ (by first | omega | (simp <;> omega)) _ | with_reducible refine Below.setCell ?_ (by first | omega | (dsimp only; omega) | (simp <;> omega)) _ | with_reducible refine Below.trans ?_ (Below.mono (by assumption) (by first | omega | (simp <;> omega)))))).trans (but_hist _ _ _ _ _))
                          case rest =>
                            obtain ⟨hBA4, hbu⟩ := hcut
                            have hBZ4 : Blk wc (H + 1) 24 [.int .i64 0, .int .i64 0, .int .i64 0] := hbu.block _ _ (by omega) hBZ3
                            have HO4 := Lib.hid (hbu.ownsRow HO3.out (fun k hk => by omega))
                            have hB4 := hbu.below hB3 (fun k hk => by omega) (by omega)
                            have hs4 := hbu.size
                            have c1 := hbu.cell (a := ⟨b1, o1 + k, none⟩) (by dsimp only; omega) C1.out
                            have c2 := hbu.cell (a := ⟨b2, o2 + k, none⟩) (by dsimp only; omega) C2.out
                            have hZt4 : H + 2 ≤ wc.heap.size := by omega
                            have k1 : b1 < wc.heap.size := by omega
                            have k2 : b2 < wc.heap.size := by omega
                            clear hBA3 hBZ3 HO3 hB3 hbu hs4 C1 C2 qX n1 n2 n3 c3 hZt3 lH a0 a1 a2
                            have w5 : IntKind.i64.wrap ((q : Int) + (m : Int)) = ((q + m : Nat) : Int) := by rw [IntWalk.i64_in _ (by omega)]; omega
                            have C2 := Lib.hid c2
                            go_wp2
                            go_region_held3 (fun w' => w'.cell? ⟨b1, o1 + k, none⟩ = some (.int .i64 (x : Int)) ∧ w'.cell? ⟨b2, o2 + k, none⟩ = some (.int .i64 (m : Int))) (first | (simp [go_sem, *]; done) | go_keep) ((refine step_append_lies _ (by rfl) _ _ _ (by rfl) (H + 2) 35 i3 _ 3 24 Tryd.underlying22 hi3 hz0 hz1 hz2 rfl (by omega) (.slice pq k cq) k _ (by rfl) ((HO4.out.alloc _).drew) ⟨wc.heap.size, 0, none⟩ 1 1 [.int .i64 (x : Int), .int .i64 (m : Int), .int .i64 v] (by rfl) (by rfl) (World.news_of_block (cs := #[.int .i64 (x : Int), .int .i64 (m : Int), .int .i64 v]) (t := 35) (fr := (0, 0)) (heap_alloc_new wc _)) (by simp [Value.oneCell']) (by omega) (by unfold maxLen; omega) (by omega) (by simp; omega) (wc.heap.size + 1) (by simp) ?_; intro gg cap2 w6 hown6 hgrow6 hat hlt6; (have r1 : w6.cell? ⟨b1, o1 + k, none⟩ = some (.int .i64 (x : Int)) := by (rw [hgrow6.cell_far _ (by simp; omega) (fun hh => by have := own_baseQ HO4.out _ hh.symm; simp at this; omega)]; simp [go_sem, *])); (have r2 : w6.cell? ⟨b2, o2 + k, none⟩ = some (.int .i64 (m : Int)) := by (rw [hgrow6.cell_far _ (by simp; omega) (fun hh => by have := own_baseQ HO4.out _ hh.symm; simp at this; omega)]; simp [go_sem, *]))))
                            go_wp2
                            go_roundw
                            case rel =>
                              have hs6 := hgrow6.size
                              simp at hs6
                              have bw6 : Below (H + 2) wc w6 := (((Below.refl _ wc).alloc (by omega) _).drew).grown hgrow6 (by simp; omega) (own_baseQ HO4.out)
                              refine ⟨k + 1, some ⟨gg, 0, none⟩, cap2, q + m, T2, by go_num, by omega, rfl, rfl, rfl, Lib.hid HLN.out.symm, Lib.hid HSN.out.symm, Lib.hid (fun i hi => ?_), ?_, ?_, hBZ4.below bw6 (by omega), hB4.trans (bw6.mono (by omega)), by omega⟩
                              · by_cases hik : i < k
                                · exact HF.out i hik
                                · obtain rfl : i = k := by omega
                                  exact HFK.out
                              · rw [HQN.out, flat_append]
                                exact hown6
                              · rw [HHN.out]
                                exact hBA4.below bw6 (by omega)
                            case measure => go_light; simp [intOf] <;> omega
                  · obtain rfl : k = ls.length := by omega
                    have jj : ¬ (ls.length : Int) < (ls.length : Int) := by omega
                    have hrr : RR = (oQs ls ds ms (a, b, c) ls.length, L ++ all.extract p all.size, oH ls ds (a, b, c) ls.length, 0) := by
                      rw [← HRR2.out, if_neg, HL.out, HP.out]
                      have : (List.range ls.length).all (oFit all before.size ls ds ms) = true := by
                        rw [List.all_eq_true]
                        intro i hi
                        exact HF.out i (List.mem_range.1 hi)
                      rw [this]
                      simp
                    have hpl : p ≤ all.size := by rw [HP.out]; exact HOM.out _ (Nat.le_refl _)
                    have hLle := oL_le all before.size ls ms ls.length
                    rw [← HL.out, ← HP.out] at hLle
                    have hcat2 : ∀ X, (Op.stringOp .add L (all.extract p all.size)).run Tryd.prog X = .ok (.string (L ++ all.extract p all.size)) X := fun X => run_string_add_sum X _ _ (by rw [ByteArray.size_extract]; omega)
                    obtain ⟨T3, hT3⟩ : ∃ T, L ++ all.extract p all.size = T := ⟨_, rfl⟩
                    rw [hT3] at hcat2 hrr
                    obtain ⟨⟨h1, h2, h3⟩, hh⟩ : ∃ h, oH ls ds (a, b, c) ls.length = h := ⟨_, rfl⟩
                    rw [hh] at hBA hrr
                    dsimp only at hBA
                    have HRR3 := Lib.hid hrr
                    have HOWN := Lib.hid hown
                    have HQL := Lib.hid (oQs_len ls ds ms (a, b, c) ls.length)
                    have a0 := hBA.cell 0
                    have a1 := hBA.cell 1
                    have a2 := hBA.cell 2
                    have z0 := hBZ.cell 0
                    have z1 := hBZ.cell 1
                    have z2 := hBZ.cell 2
                    have f0 := hBZ.frozen 0
                    have f1 := hBZ.frozen 1
                    have f2 := hBZ.frozen 2
                    have lZ := hBZ.lt
                    have i0 : (0 : Int) ≤ (p : Int) := by omega
                    have i1 : (p : Int) ≤ (all.size : Int) := by omega
                    clear HRR2 HL HP HF hown hh hBw hLle hT3 hrr hsz
                    go_wp2
                    apply wp_det
                    case det =>
                      go_region
                      all_goals exact ⟨rfl, rfl⟩
                    case go =>
                      go_wp2
                      (try rw [Exit.noGoto_ret])
                      refine bodyPost_ret (v := .tuple #[.slice pq ls.length cq, .string T3, .agg #[.int .i64 h1, .int .i64 h2, .int .i64 h3], .int .i64 0]) (by simp [results, Tryd.results32, go_sem, *]) rfl ⟨pq, cq, by rw [HRR3.out]; dsimp only; rw [HQL.out], ?_, ?_⟩
                      · rw [HRR3.out]
                        exact RowQ.of_own (((But.of_below (S := fun k => k = H + 1) (by repeat' (first | with_reducible exact Below.refl _ _ | with_reducible refine Below.drew ?_ | with_reducible refine below_drewN ?_ _ | with_reducible refine Below.alloc ?_ (by first | omega | (simp <;> omega)) _ | with_reducible refine Below.setCell ?_ (by first | omega | (dsimp only; omega) | (simp <;> omega)) _ | with_reducible refine Below.trans ?_ (Below.mono (by assumption) (by first | omega | (simp <;> omega)))))).trans (but_hist _ _ _ _ _)).ownsRow HOWN.out (fun k hk => by omega)) HQL.out.symm
                      · rw [HH.out]
                        repeat' (first | with_reducible exact Below.refl _ _ | with_reducible refine Below.drew ?_ | with_reducible refine below_drewN ?_ _ | with_reducible refine Below.alloc ?_ (by first | omega | (simp <;> omega)) _ | with_reducible refine Below.setCell ?_ (by first | omega | (dsimp only; omega) | (simp <;> omega)) _ | with_reducible refine Below.trans ?_ (Below.mono (by assumption) (by first | omega | (simp <;> omega))))
      · have h10' : chkL true [a, b, c] = 10 := by
          rcases chk_two a b c with h | h
          · exact absurd h h10
          · exact h
        rw [h10'] at qC
        have hr : RR = ([], ⟨#[]⟩, (0, 0, 0), 10) := by
          rw [← HRR.out]; unfold Rof; rw [if_neg (by rw [hR]; simp), if_neg h6, if_pos h10]
        subst hr
        clear hR h6 h10 h10' HRR
        go_wp2_with (go_at_call 66; refine (qC _).mono ?_; rintro en wC ⟨rfl, hbC⟩; have hsC := hbC.size; have z0 := (hBZ.later hbx).later hbC; have zc0 := z0.cell 0; have zc1 := z0.cell 1; have zc2 := z0.cell 2; have zf0 := z0.frozen 0; have zf1 := z0.frozen 1; have zf2 := z0.frozen 2)
        refine bodyPost_ret (v := .tuple #[.slice none 0 0, .string ⟨#[]⟩, .agg #[.int .i64 0, .int .i64 0, .int .i64 0], .int .i64 10]) (by simp [results, Tryd.results32, go_sem, *]) rfl (ofPost_err _ ?_)
        rw [HH.out]
        clear hBw
        repeat' (first | with_reducible exact Below.refl _ _ | with_reducible refine Below.drew ?_ | with_reducible refine below_drewN ?_ _ | with_reducible refine Below.alloc ?_ (by first | omega | (simp <;> omega)) _ | with_reducible refine Below.setCell ?_ (by first | omega | (dsimp only; omega) | (simp <;> omega)) _ | with_reducible refine Below.trans ?_ (Below.mono (by assumption) (by first | omega | (simp <;> omega))))

theorem rofr_p (before out : ByteArray) (pl : Option Addr) (ls : List Int) (cl : Nat) (pd : Option Addr) (ds : List Int) (cd : Nat) (pm : Option Addr) (ms : List Int) (cm : Nat) (a b c : Int) (w : World) (hl : Row .i64 w pl ls) (hd : Row .i64 w pd ds) (hm : Row .i64 w pm ms) (nl : ls.length ≤ 140737488355328) (nd : ds.length ≤ 140737488355328) (nm : ms.length ≤ 140737488355328) (nb : before.size ≤ 9223372036854775807) (no : out.size ≤ 9223372036854775807) : Calls Tryd.prog 32 #[.string before, .string out, .slice pl ls.length cl, .slice pd ds.length cd, .slice pm ms.length cm, .agg #[.int .i64 a, .int .i64 b, .int .i64 c]] w (OfPost (Rof before out ls ds ms a b c) w) := by
  by_cases h0 : ds.length = ls.length ∧ ms.length = ls.length
  · exact rofr_1 before out pl ls cl pd ds cd pm ms cm a b c w hl hd hm nl nd nm nb no h0.1 h0.2
  · exact rofr_len before out pl ls cl pd ds cd pm ms cm a b c w hl hd hm nl nd nm nb no h0
end Go.Proofs.YtmblpmaelglnpaaDoor
