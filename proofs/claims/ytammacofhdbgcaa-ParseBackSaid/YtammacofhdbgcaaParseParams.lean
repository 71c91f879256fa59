/-
  Parameters made of a number, walked.
-/
import Derived.Test.YtammacofhdbgcaaRows
import Derived.Test.YtammacofhdbgcaaParseHelp
import Derived.Test.YtammacofhdbgcaaMatchDeeperW
import Derived.Test.YtammacofhdbgcaaParams1
import Derived.Test.YtammacofhdbgcaaGBase
import Derived.Deep.Light
import Derived.Shelf.Abstract
import Derived.Shelf.RegionOpen
import Derived.OwnWalkIn
import Derived.TacticsInMore
import Derived.LoopNIn
import Derived.LoopIn
import Derived.Outline
import Derived.IntWalk
import Derived.WalkMore
namespace Go.Proofs.Ytammacofhdbgcaa
open Go.RowKit
set_option linter.unusedSimpArgs false
set_option linter.unusedVariables false
open Go.Shelf
attribute [local go_sem] Oper.semAt_some

theorem get_four {vs : List Value} (h : vs.length = 4) {i : Int} (h0 : 0 ≤ i) (h1 : i < 4) : ∃ v, vs[i.toNat]? = some v ∧ v ∈ vs := by
  have : i.toNat < vs.length := by omega
  exact ⟨vs[i.toNat], List.getElem?_eq_getElem this, List.getElem_mem this⟩
set_option maxRecDepth 100000 in
set_option maxHeartbeats 8000000 in
theorem params_1 (k : Int) (w w1 : World) (hk0 : 0 ≤ k) (hk1 : k < 1048576) (J O : Int) (hJ : [Value.int .i64 16, .int .i64 40, .int .i64 100, .int .i64 1000][(k / 9 % 4).toNat]? = some (.int .i64 J)) (hO : [Value.int .i64 9, .int .i64 0, .int .i64 6, .int .i64 3][(k / 36 % 4).toNat]? = some (.int .i64 O)) (n : Int) (qM : ∀ w, Calls Try.prog 22 #[.int .i64 n, .int .i64 1048576] w fun e w' => e = .returned (.int .i64 k) ∧ Below w.heap.size w w') :
    Calls Try.prog 42 #[.int .i64 n] w fun e w' => e = .returned (.agg #[.int .i64 (1 + k % 9), .int .i64 (if k / 1440 % 4 = 3 then 17 else 10), .int .i64 J, .int .i64 O, .bool (k / 144 % 5 == 1), .bool (k / 720 % 2 == 0)]) ∧ Below w.heap.size w w' := by
  have a1 := Int.emod_nonneg (k / 9) (b := 4) (by omega)
  have a2 := Int.emod_lt_of_pos (k / 9) (b := 4) (by omega)
  have a3 := Int.emod_nonneg (k / 36) (b := 4) (by omega)
  have a4 := Int.emod_lt_of_pos (k / 36) (b := 4) (by omega)
  have a5 := Int.emod_nonneg k (b := 9) (by omega)
  have a6 := Int.emod_lt_of_pos k (b := 9) (by omega)
  have b1 : 0 ≤ k / 9 := by omega
  have b2 : 0 ≤ k / 36 := by omega
  have b3 : 0 ≤ k / 144 := by omega
  have b4 : 0 ≤ k / 720 := by omega
  have b5 : 0 ≤ k / 1440 := by omega
  obtain ⟨WL, hWL⟩ : ∃ x : Int, (if k / 1440 % 4 = 3 then 17 else 10) = x := ⟨_, rfl⟩
  rw [hWL]
  have HWL := Lib.hid hWL
  clear hWL
  have hJ2 : ∀ h, [Value.int .i64 16, .int .i64 40, .int .i64 100, .int .i64 1000][(k / 9 % 4).toNat]'h = .int .i64 J := fun h => (List.getElem?_eq_some_iff.1 hJ).2
  have hO2 : ∀ h, [Value.int .i64 9, .int .i64 0, .int .i64 6, .int .i64 3][(k / 36 % 4).toNat]'h = .int .i64 O := fun h => (List.getElem?_eq_some_iff.1 hO).2
  go_enter Try.func42, Try.ntmps42
  go_wp2_with (go_at_call 22; refine (qM _).mono ?_; rintro en w1 ⟨rfl, hb⟩; have hB1 := Blk.later (by simpa using Blk.new w 57 #[.int .i64 0, .int .i64 0, .int .i64 0, .int .i64 0, .bool false, .bool false] : Blk (w.alloc (.cells #[.int .i64 0, .int .i64 0, .int .i64 0, .int .i64 0, .bool false, .bool false] 57)) w.heap.size 57 [.int .i64 0, .int .i64 0, .int .i64 0, .int .i64 0, .bool false, .bool false]) hb; have hsz := hb.size; (simp at hsz))
  go_cut [4] (fun s4 wx => ∃ B, s4 = .pointer (some ⟨B, 0, none⟩) ∧ w.heap.size < B ∧ wx.cell? ⟨B, 0, none⟩ = some (.int .i64 (1 + k % 9)) ∧ wx.cell? ⟨B, 1, none⟩ = some (.int .i64 10) ∧ wx.cell? ⟨B, 2, none⟩ = some (.int .i64 J) ∧ wx.cell? ⟨B, 3, none⟩ = some (.int .i64 O) ∧ wx.cell? ⟨B, 4, none⟩ = some (.bool (k / 144 % 5 == 1)) ∧ wx.cell? ⟨B, 5, none⟩ = some (.bool (k / 720 % 2 == 0)) ∧ (∀ j, wx.frozen? ⟨B, j, none⟩ = false) ∧ B < wx.heap.size ∧ Blk wx w.heap.size 57 [.int .i64 0, .int .i64 0, .int .i64 0, .int .i64 0, .bool false, .bool false] ∧ Below w.heap.size w wx)
  case first =>
    go_region
    all_goals (go_wp2_with fail; go_meet; go_light)
    all_goals
      refine ⟨_, rfl, by first | omega | (simp; omega), by simp [go_sem], by simp [go_sem], by simp [go_sem], by simp [go_sem], by simp [go_sem], by simp [go_sem], fun j => by simp [go_sem], by first | omega | (simp; done) | (simp; omega), Blk.later hB1 ?_, ?_⟩
      · repeat' (first | with_reducible exact Below.refl _ _ | with_reducible refine Below.drew ?_ | with_reducible refine below_drewN ?_ _ | with_reducible refine Below.alloc ?_ (by first | omega | (simp <;> omega)) _ | with_reducible refine Below.setCell ?_ (by first | omega | (dsimp only; omega) | (simp <;> omega)) _ | with_reducible refine Below.trans ?_ (Below.mono (by assumption) (by first | omega | (simp <;> omega))))
      · repeat' (first | with_reducible exact Below.refl _ _ | with_reducible refine Below.drew ?_ | with_reducible refine below_drewN ?_ _ | with_reducible refine Below.alloc ?_ (by first | omega | (simp <;> omega)) _ | with_reducible refine Below.setCell ?_ (by first | omega | (dsimp only; omega) | (simp <;> omega)) _ | with_reducible refine Below.trans ?_ (Below.mono (by assumption) (by first | omega | (simp <;> omega))))
  case rest =>
    obtain ⟨B, rfl, hB, c0, c1, c2, c3, c4, c5, hf, hlB, hZ, hb2⟩ := hcut
    have f1 := hf 1
    have n1 : ¬ B = w.heap.size := by omega
    have n2 : ¬ w.heap.size = B := by omega
    have hlw := hZ.lt
    have z0 : wc.cell? ⟨w.heap.size, 0, none⟩ = some (.int .i64 0) := hZ.cell 0; have z1 : wc.cell? ⟨w.heap.size, 1, none⟩ = some (.int .i64 0) := hZ.cell 1; have z2 : wc.cell? ⟨w.heap.size, 2, none⟩ = some (.int .i64 0) := hZ.cell 2; have z3 : wc.cell? ⟨w.heap.size, 3, none⟩ = some (.int .i64 0) := hZ.cell 3; have z4 : wc.cell? ⟨w.heap.size, 4, none⟩ = some (.bool false) := hZ.cell 4; have z5 : wc.cell? ⟨w.heap.size, 5, none⟩ = some (.bool false) := hZ.cell 5
    have hfz : ∀ j, wc.frozen? ⟨w.heap.size, j, none⟩ = false := fun j => hZ.frozen j
    clear hB1 hb
    by_cases h3 : k / 1440 % 4 = 3
    · have hw : WL = 17 := by have := HWL.out; rw [if_pos h3] at this; exact this.symm
      subst hw
      have e1 : (k / 1440 % 4 == 3) = true := by simpa using h3
      have e2 : decide (k / 1440 % 4 = 3) = true := by simpa using h3
      go_wp2
      obtain ⟨W2, hW2⟩ : ∃ W2, (((((((wc.setCell ⟨B, 1, none⟩ (.int .i64 17)).setCell ⟨w.heap.size, 0, none⟩ (.int .i64 (1 + k % 9))).setCell ⟨w.heap.size, 1, none⟩ (.int .i64 17)).setCell ⟨w.heap.size, 2, none⟩ (.int .i64 J)).setCell ⟨w.heap.size, 3, none⟩ (.int .i64 O)).setCell ⟨w.heap.size, 4, none⟩ (.bool (k / 144 % 5 == 1))).setCell ⟨w.heap.size, 5, none⟩ (.bool (k / 720 % 2 == 0))) = W2 := ⟨_, rfl⟩
      have hB2 : Blk W2 w.heap.size 57 [.int .i64 (1 + k % 9), .int .i64 17, .int .i64 J, .int .i64 O, .bool (k / 144 % 5 == 1), .bool (k / 720 % 2 == 0)] := by rw [← hW2]; exact (((((((hZ.other (a := ⟨B, 1, none⟩) (by dsimp only; omega) _)).set 0 _).set 1 _).set 2 _).set 3 _).set 4 _).set 5 _
      have hb3 : Below w.heap.size w W2 := by
        rw [← hW2]
        repeat' (first | with_reducible exact Below.refl _ _ | with_reducible refine Below.drew ?_ | with_reducible refine below_drewN ?_ _ | with_reducible refine Below.alloc ?_ (by first | omega | (simp <;> omega)) _ | with_reducible refine Below.setCell ?_ (by first | omega | (dsimp only; omega) | (simp <;> omega)) _ | with_reducible refine Below.trans ?_ (Below.mono (by assumption) (by first | omega | (simp <;> omega))))
      rw [hW2]
      clear hW2 c0 c1 c2 c3 c4 c5 z0 z1 z2 z3 z4 z5
      have d0 : W2.cell? ⟨w.heap.size, 0, none⟩ = some (.int .i64 (1 + k % 9)) := hB2.cell 0; have d1 : W2.cell? ⟨w.heap.size, 1, none⟩ = some (.int .i64 17) := hB2.cell 1; have d2 : W2.cell? ⟨w.heap.size, 2, none⟩ = some (.int .i64 J) := hB2.cell 2; have d3 : W2.cell? ⟨w.heap.size, 3, none⟩ = some (.int .i64 O) := hB2.cell 3; have d4 : W2.cell? ⟨w.heap.size, 4, none⟩ = some (.bool (k / 144 % 5 == 1)) := hB2.cell 4; have d5 : W2.cell? ⟨w.heap.size, 5, none⟩ = some (.bool (k / 720 % 2 == 0)) := hB2.cell 5
      refine bodyPost_ret (v := .agg #[.int .i64 (1 + k % 9), .int .i64 17, .int .i64 J, .int .i64 O, .bool (k / 144 % 5 == 1), .bool (k / 720 % 2 == 0)]) (by simp [results, Try.results42, go_sem, *]) rfl ⟨rfl, hb3⟩
    · have hw : WL = 10 := by have := HWL.out; rw [if_neg h3] at this; exact this.symm
      subst hw
      have e1 : (k / 1440 % 4 == 3) = false := by simpa using h3
      have e2 : decide (k / 1440 % 4 = 3) = false := by simpa using h3
      go_wp2
      obtain ⟨W2, hW2⟩ : ∃ W2, ((((((wc.setCell ⟨w.heap.size, 0, none⟩ (.int .i64 (1 + k % 9))).setCell ⟨w.heap.size, 1, none⟩ (.int .i64 10)).setCell ⟨w.heap.size, 2, none⟩ (.int .i64 J)).setCell ⟨w.heap.size, 3, none⟩ (.int .i64 O)).setCell ⟨w.heap.size, 4, none⟩ (.bool (k / 144 % 5 == 1))).setCell ⟨w.heap.size, 5, none⟩ (.bool (k / 720 % 2 == 0))) = W2 := ⟨_, rfl⟩
      have hB2 : Blk W2 w.heap.size 57 [.int .i64 (1 + k % 9), .int .i64 10, .int .i64 J, .int .i64 O, .bool (k / 144 % 5 == 1), .bool (k / 720 % 2 == 0)] := by rw [← hW2]; exact ((((((hZ).set 0 _).set 1 _).set 2 _).set 3 _).set 4 _).set 5 _
      have hb3 : Below w.heap.size w W2 := by
        rw [← hW2]
        repeat' (first | with_reducible exact Below.refl _ _ | with_reducible refine Below.drew ?_ | with_reducible refine below_drewN ?_ _ | with_reducible refine Below.alloc ?_ (by first | omega | (simp <;> omega)) _ | with_reducible refine Below.setCell ?_ (by first | omega | (dsimp only; omega) | (simp <;> omega)) _ | with_reducible refine Below.trans ?_ (Below.mono (by assumption) (by first | omega | (simp <;> omega))))
      rw [hW2]
      clear hW2 c0 c1 c2 c3 c4 c5 z0 z1 z2 z3 z4 z5
      have d0 : W2.cell? ⟨w.heap.size, 0, none⟩ = some (.int .i64 (1 + k % 9)) := hB2.cell 0; have d1 : W2.cell? ⟨w.heap.size, 1, none⟩ = some (.int .i64 10) := hB2.cell 1; have d2 : W2.cell? ⟨w.heap.size, 2, none⟩ = some (.int .i64 J) := hB2.cell 2; have d3 : W2.cell? ⟨w.heap.size, 3, none⟩ = some (.int .i64 O) := hB2.cell 3; have d4 : W2.cell? ⟨w.heap.size, 4, none⟩ = some (.bool (k / 144 % 5 == 1)) := hB2.cell 4; have d5 : W2.cell? ⟨w.heap.size, 5, none⟩ = some (.bool (k / 720 % 2 == 0)) := hB2.cell 5
      refine bodyPost_ret (v := .agg #[.int .i64 (1 + k % 9), .int .i64 10, .int .i64 J, .int .i64 O, .bool (k / 144 % 5 == 1), .bool (k / 720 % 2 == 0)]) (by simp [results, Try.results42, go_sem, *]) rfl ⟨rfl, hb3⟩

theorem params_p (n : Int) : ∃ (L W J O : Int) (sy ch : Bool), pOk L W J O ∧ (W = 10 ∨ W = 17) ∧ ∀ w, Calls Try.prog 42 #[.int .i64 n] w fun e w' => e = .returned (.agg #[.int .i64 L, .int .i64 W, .int .i64 J, .int .i64 O, .bool sy, .bool ch]) ∧ Below w.heap.size w w' := by
  have k0 := Int.emod_nonneg n (b := 1048576) (by omega)
  have k1 := Int.emod_lt_of_pos n (b := 1048576) (by omega)
  have qM : ∀ w, Calls Try.prog 22 #[.int .i64 n, .int .i64 1048576] w fun e w' => e = .returned (.int .i64 (n % 1048576)) ∧ Below w.heap.size w w' := fun w => (modS n 1048576 (by omega) (by omega) w).mono fun e w' ⟨h1, h2⟩ => ⟨h1, by rw [h2]; exact Below.refl _ _⟩
  generalize n % 1048576 = k at k0 k1 qM
  obtain ⟨v, hv, hm⟩ := get_four (vs := [Value.int .i64 16, .int .i64 40, .int .i64 100, .int .i64 1000]) rfl (i := k / 9 % 4) (Int.emod_nonneg _ (by omega)) (Int.emod_lt_of_pos _ (by omega))
  obtain ⟨u, hu, hmu⟩ := get_four (vs := [Value.int .i64 9, .int .i64 0, .int .i64 6, .int .i64 3]) rfl (i := k / 36 % 4) (Int.emod_nonneg _ (by omega)) (Int.emod_lt_of_pos _ (by omega))
  obtain ⟨J, rfl, hJ⟩ : ∃ J : Int, v = .int .i64 J ∧ 16 ≤ J ∧ J ≤ 1000 := by
    simp at hm
    rcases hm with rfl | rfl | rfl | rfl
    · exact ⟨16, rfl, by omega, by omega⟩
    · exact ⟨40, rfl, by omega, by omega⟩
    · exact ⟨100, rfl, by omega, by omega⟩
    · exact ⟨1000, rfl, by omega, by omega⟩
  obtain ⟨O, rfl, hO⟩ : ∃ O : Int, u = .int .i64 O ∧ 0 ≤ O ∧ O ≤ 9 := by
    simp at hmu
    rcases hmu with rfl | rfl | rfl | rfl
    · exact ⟨9, rfl, by omega, by omega⟩
    · exact ⟨0, rfl, by omega, by omega⟩
    · exact ⟨6, rfl, by omega, by omega⟩
    · exact ⟨3, rfl, by omega, by omega⟩
  have a5 := Int.emod_nonneg k (b := 9) (by omega)
  have a6 := Int.emod_lt_of_pos k (b := 9) (by omega)
  have hW : (if k / 1440 % 4 = 3 then (17 : Int) else 10) = 10 ∨ (if k / 1440 % 4 = 3 then (17 : Int) else 10) = 17 := by
    by_cases h : k / 1440 % 4 = 3
    · rw [if_pos h]; exact .inr rfl
    · rw [if_neg h]; exact .inl rfl
  refine ⟨_, _, J, O, _, _, ?_, hW, fun w => params_1 k w w k0 k1 J O hv hu n qM⟩
  unfold pOk
  omega
end Go.Proofs.Ytammacofhdbgcaa
