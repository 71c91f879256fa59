/-
  NormScales, walked.
-/
import Derived.Test.YtgponpjlkebjcaaRows
import Derived.Test.YtgponpjlkebjcaaNormPlain3
import Derived.Test.YtgponpjlkebjcaaCommon
import Derived.Deep.Light
import Derived.Shelf.Abstract
import Derived.Shelf.RegionOpen
import Derived.OwnWalkIn
import Derived.TacticsInMore
import Derived.LoopNIn
import Derived.LoopIn
import Derived.Outline
import Derived.Maps.AppendAt
namespace Go.Proofs.Ytgponpjlkebjcaa
open Go.RowKit
set_option linter.unusedSimpArgs false
set_option linter.unusedVariables false
attribute [local go_sem] Oper.semAt_some

theorem lone_row (w : World) (n : Nat) (k : Int) : Row .i64 (w.alloc (.cells ((madeCells #[.int .i64 0] (n + 1)).setIfInBounds n (.int .i64 k)) 3)) (some ⟨w.heap.size, 0, none⟩) (lone n k) := by
  refine Blk.row (t := 3) ?_
  have h := Blk.new w 3 ((madeCells #[.int .i64 0] (n + 1)).setIfInBounds n (.int .i64 k))
  rw [Array.toList_setIfInBounds, toList_madeCells_one, List.replicate_succ', List.set_append, if_neg (by simp), List.length_replicate, Nat.sub_self, List.set_cons_zero] at h
  unfold lone
  simpa using h
set_option maxRecDepth 100000 in
set_option maxHeartbeats 8000000 in
theorem normScales_1 (a : Option Addr) (xs : List Int) (cap : Nat) (by_ log : Int) (w : World) (ha : Row .i64 w a xs) (hl : xs.length ≤ 9223372036854775807) (Y D D3 : List Int) (S P K : Int) (n k m0 : Nat)
    (hn4 : n + 1 ≤ 40) (HY : Hid (Y.length = n + 1)) (HD : Hid (D.length = k)) (HD3 : Hid (D3.length = n + 1)) (hkn : k ≤ n + 1) (hm0 : m0 < 7) (gP : wrap64 ((2 : Int) ^ (6 + m0)) = P)
    (hK1 : 1 ≤ K) (hK9 : K ≤ 9) (HB : Hid (∀ i, 0 ≤ Y.getD i 0 ∧ Y.getD i 0 ≤ 1048576)) (HL : Hid (D3.getD n 0 = P))
    (qC : ∀ w, Row .i64 w a xs → Calls Try.prog 50 #[.slice a xs.length cap] w (CntPost (n + 1) S Y w))
    (qM1 : ∀ w, Calls Try.prog 41 #[.int .i64 by_, .int .i64 9] w fun e' w' => e' = .returned (.int .i64 (K - 1)) ∧ Below w.heap.size w w')
    (qM : ∀ w, Calls Try.prog 41 #[.int .i64 log, .int .i64 7] w fun e' w' => e' = .returned (.int .i64 (m0 : Int)) ∧ Below w.heap.size w w')
    (qA : ∀ w pa ca, Row .i64 w pa Y → Calls Try.prog 48 #[.slice pa (n + 1) ca, .int .i64 (6 + (m0 : Int))] w fun e w' => ∃ pd cd, e = .returned (.tuple #[.agg #[.int .i64 (6 + (m0 : Int)), .slice pd k cd], .int .i64 0]) ∧ Row .i64 w' pd D ∧ Below w.heap.size w w')
    (qB : ∀ w pa ca, Row .i64 w pa (Y.map (· * K)) → Calls Try.prog 48 #[.slice pa (n + 1) ca, .int .i64 (6 + (m0 : Int))] w fun e w' => ∃ pd cd, e = .returned (.tuple #[.agg #[.int .i64 (6 + (m0 : Int)), .slice pd k cd], .int .i64 0]) ∧ Row .i64 w' pd D ∧ Below w.heap.size w w')
    (qG : ∀ w pa ca, Row .i64 w pa (lone n K) → Calls Try.prog 48 #[.slice pa (n + 1) ca, .int .i64 (6 + (m0 : Int))] w fun e w' => ∃ pd cd, e = .returned (.tuple #[.agg #[.int .i64 (6 + (m0 : Int)), .slice pd (n + 1) cd], .int .i64 0]) ∧ Row .i64 w' pd D3 ∧ Below w.heap.size w w') :
    Calls Try.prog 9 #[.slice a xs.length cap, .int .i64 by_, .int .i64 log] w fun e w' => e = .returned (.bool true) ∧ Below w.heap.size w w' := by
  obtain ⟨i0, hinf, hz0, hz1, hz2⟩ := info_parts infoInt
  have gK : 1 + (K - 1) = K := by omega
  go_enter Try.func9, Try.ntmps9
  go_wp2_with (first | (go_at_call 50; refine (qC _ (ha.later (by repeat' (first | exact Below.refl _ _ | refine Below.drew ?_ | refine below_drewN ?_ _ | refine Below.alloc ?_ (by first | omega | (simp <;> omega)) _ | refine Below.setCell ?_ (by first | omega | (simp <;> omega)) _ | refine Below.trans ?_ (Below.mono (by assumption) (by first | omega | (simp <;> omega))))))).mono ?_; rintro e w1 ⟨pY, cY, rfl, hrY, hb1⟩; have hs1 := hb1.size) | (go_at_call 41; first | ((with_reducible refine (qM1 _).mono ?_); rintro e w2 ⟨rfl, hb2⟩; have hs2 := hb2.size; replace hrY := Row.later hrY hb2) | ((with_reducible refine (qM _).mono ?_); rintro e w3 ⟨rfl, hb3⟩; have hs3 := hb3.size; replace hrY := Row.later hrY hb3)))
  have hwb : Below w.heap.size w w3 := by
    repeat' (first | exact Below.refl _ _ | refine Below.drew ?_ | refine below_drewN ?_ _ | refine Below.alloc ?_ (by first | omega | (simp <;> omega)) _ | refine Below.setCell ?_ (by first | omega | (simp <;> omega)) _ | refine Below.trans ?_ (Below.mono (by assumption) (by first | omega | (simp <;> omega))))
  have hws := hwb.size
  clear qC qM1 qM gK hb1 hb2 hb3 hs1 hs2 hs3
  go_loopw [11, 12] (fun v i wr => ∃ (j : Nat) (vs : List Int), j ≤ n + 1 ∧ i = .int .i64 (j : Int) ∧ wr.ownsRow w3.heap.size 3 1 v vs.length (vs.map (Value.int .i64)) ∧ Hid (vs = (Y.map (· * K)).take j) ∧ vs.length = j ∧ Below w3.heap.size w3 wr) (fun _ i _ => n + 1 - (intOf i).toNat)
  case atStart => exact ⟨0, [], by omega, rfl, World.ownsRow_nil _ _ _ _, Lib.hid rfl, rfl, Below.refl _ _⟩
  case round =>
    obtain ⟨j, vs, hj, rfl, hown, HV, hvl, hb⟩ := hrel
    have hws3 := hb.size
    replace hrY := hrY.later hb
    by_cases hlt : j < n + 1
    · obtain ⟨bY, oY, rfl, hbY, hcY⟩ := hrY.at (i := j) (by rw [HY.out]; exact hlt)
      have cY1 := hcY j (by rw [HY.out]; exact hlt)
      obtain ⟨y, hy⟩ : ∃ y, Y.getD j 0 = y := ⟨_, rfl⟩
      obtain ⟨y1, y2⟩ := HB.out j
      have hgs := getD_scale Y K j
      rw [hy] at cY1 y1 y2 hgs
      have hsu : (Y.map (· * K)).take (j + 1) = (Y.map (· * K)).take j ++ [y * K] := by
        rw [List.take_succ_eq_append_getElem (by rw [List.length_map, HY.out]; exact hlt), ← hgs]
        rw [List.getD_eq_getElem?_getD, List.getElem?_eq_getElem (by rw [List.length_map, HY.out]; exact hlt)]
        rfl
      have HSU := Lib.hid hsu
      have i0' : (0 : Int) ≤ (j : Int) := by omega
      have i1 : (j : Int) < (n : Int) + 1 := by omega
      have e1 := Int.mul_nonneg y1 (show 0 ≤ K by omega)
      have e2 := Int.mul_le_mul y2 hK9 (by omega) (by omega)
      have e3 : wrap64 (y * K) = y * K := IntWalk.wrap64_in _ (by omega)
      (try simp only [Nat.zero_add] at cY1)
      clear hcY hy hgs hsu y1 y2 e2
      go_wp2_with (at_builtin; refine wpList_append_own _ rfl _ _ 22 rfl w3.heap.size 3 i0 (.int .i64 0) 1 8 Try.underlying22 hinf hz0 hz1 hz2 rfl (by decide) _ _ _ rfl (hown.alloc _) ⟨wr.heap.size, 0, none⟩ 1 1 [.int .i64 (y * K)] rfl rfl (cell_one_new _ _ _) (ints_oneCell .i64 [y * K]) (by unfold maxLen; omega) (by omega) (by simp; omega) ?_; intro v1 w1 hown1 hgrow1 hnil1)
      go_roundw
      case rel =>
        refine ⟨j + 1, vs ++ [y * K], by omega, by go_num, by simpa using hown1, ?_, by simp; omega, ?_⟩
        · exact Lib.hid (by rw [HSU.out, HV.out])
        · exact (hb.alloc (by omega) _).grown hgrow1 (by simp; omega) (fun k hk => (hown.lt k hk).1)
      case measure => go_light; simp [intOf] <;> omega
    · obtain rfl : j = n + 1 := by omega
      obtain ⟨pM, cM, rfl, _, hrM⟩ := Row.of_own hown
      have HVE := Lib.hid (show vs = Y.map (· * K) by have := HV.out; rwa [List.take_of_length_le (by rw [List.length_map, HY.out]; omega)] at this)
      rw [HVE.out] at hrM
      rw [hvl]
      clear hown HV hvl
      have hbw : Below w.heap.size w wr := hwb.trans (hb.mono hws)
      have hwr := hbw.size
      have hmk : ∀ W, (Instr.makeSlice 22 (.int .i64 ((n : Int) + 1)) (.int .i64 ((n : Int) + 1))).run Try.prog W = _ := fun W => mk_ints (n + 1) (by omega) W
      have hm1 : (madeCells #[Value.int .i64 0] (n + 1)).size = n + 1 := size_madeCells _ _
      have hm2 : (madeCells #[Value.int .i64 0] (n + 1))[n]? = some (.int .i64 0) := by simp [madeCells, Nat.mod_one]
      clear hwb hb hws hws3
      go_wp2_with (first | (go_at_call 48; first | ((with_reducible refine (qA _ _ _ hrY).mono ?_); rintro e w4 ⟨pA, cA, rfl, hrA, hb4⟩; have hs4 := hb4.size) | ((with_reducible refine (qB _ _ _ ?_).mono ?_); (exact hrM.later (by repeat' (first | exact Below.refl _ _ | refine Below.drew ?_ | refine below_drewN ?_ _ | refine Below.alloc ?_ (by first | omega | (simp <;> omega)) _ | refine Below.setCell ?_ (by first | omega | (simp <;> omega)) _ | refine Below.trans ?_ (Below.mono (by assumption) (by first | omega | (simp <;> omega)))))); rintro e w5 ⟨pB, cB, rfl, hrB, hb5⟩; have hs5 := hb5.size; (try simp at hs5); (have x0 : w5.cell? ⟨w4.heap.size, 0, none⟩ = some (.int .i64 (6 + (m0 : Int))) := (hb5.cell (p := ⟨w4.heap.size, 0, none⟩) (by simp)).trans (by simp [go_sem])); (have x1 : w5.cell? ⟨w4.heap.size, 1, none⟩ = some (.slice pA k cA) := (hb5.cell (p := ⟨w4.heap.size, 1, none⟩) (by simp)).trans (by simp [go_sem])); (replace hrA : Row .i64 w5 pA D := (hrA.later ((Below.refl _ w4).alloc (Nat.le_refl _) _)).later hb5)) | ((with_reducible refine (qG _ _ _ ?_).mono ?_); (exact (by have h8 := lone_row (w5.alloc (.cells #[.int .i64 (6 + (m0 : Int)), .slice pB k cB] 51)) n K; rw [World.size_alloc] at h8; exact h8)); rintro e w6 ⟨pC, cC, rfl, hrC, hw6⟩; have hs6 := hw6.size; (try simp at hs6); (have l4 : w4.heap.size < w5.heap.size := (by omega)); (have n4 : ¬ w4.heap.size = w5.heap.size := (by omega)); (have n4' : ¬ w4.heap.size = w5.heap.size + 1 := (by omega)); (have n5' : ¬ w5.heap.size = w5.heap.size + 1 := (by omega)); (have y0 : w6.cell? ⟨w4.heap.size, 0, none⟩ = some (.int .i64 (6 + (m0 : Int))) := (hw6.cell (p := ⟨w4.heap.size, 0, none⟩) (by simp <;> omega)).trans (by simp [go_sem, x0, x1, n4, n4', n5', l4, Nat.lt_succ_of_lt l4])); (have y1 : w6.cell? ⟨w4.heap.size, 1, none⟩ = some (.slice pA k cA) := (hw6.cell (p := ⟨w4.heap.size, 1, none⟩) (by simp <;> omega)).trans (by simp [go_sem, x0, x1, n4, n4', n5', l4, Nat.lt_succ_of_lt l4])); (have y2 : w6.cell? ⟨w5.heap.size, 0, none⟩ = some (.int .i64 (6 + (m0 : Int))) := (hw6.cell (p := ⟨w5.heap.size, 0, none⟩) (by simp <;> omega)).trans (by simp [go_sem, x0, x1, n4, n4', n5', l4, Nat.lt_succ_of_lt l4])); (have y3 : w6.cell? ⟨w5.heap.size, 1, none⟩ = some (.slice pB k cB) := (hw6.cell (p := ⟨w5.heap.size, 1, none⟩) (by simp <;> omega)).trans (by simp [go_sem, x0, x1, n4, n4', n5', l4, Nat.lt_succ_of_lt l4])); (replace hrA : Row .i64 w6 pA D := Row.later (hrA.later (by repeat' (first | exact Below.refl _ _ | refine Below.drew ?_ | refine below_drewN ?_ _ | refine Below.alloc ?_ (by first | omega | (simp <;> omega)) _ | refine Below.setCell ?_ (by first | omega | (simp <;> omega)) _ | refine Below.trans ?_ (Below.mono (by assumption) (by first | omega | (simp <;> omega)))))) hw6); (replace hrB : Row .i64 w6 pB D := Row.later (hrB.later (by repeat' (first | exact Below.refl _ _ | refine Below.drew ?_ | refine below_drewN ?_ _ | refine Below.alloc ?_ (by first | omega | (simp <;> omega)) _ | refine Below.setCell ?_ (by first | omega | (simp <;> omega)) _ | refine Below.trans ?_ (Below.mono (by assumption) (by first | omega | (simp <;> omega)))))) hw6); (have l6 : w4.heap.size < w6.heap.size := (by omega)); (have m6 : ¬ w4.heap.size = w6.heap.size := (by omega)); (have l7 : w5.heap.size < w6.heap.size := (by omega)); (have m7 : ¬ w5.heap.size = w6.heap.size := (by omega)); clear x0 x1)) | (go_at_call 20; (with_reducible refine (kn_same _ _ D k _ _ _ ?_ ?_ ?_ ?_).mono ?_); (exact hrA.later (by repeat' (first | exact Below.refl _ _ | refine Below.drew ?_ | refine below_drewN ?_ _ | refine Below.alloc ?_ (by first | omega | (simp <;> omega)) _ | refine Below.setCell ?_ (by first | omega | (simp <;> omega)) _ | refine Below.trans ?_ (Below.mono (by assumption) (by first | omega | (simp <;> omega)))))); (exact hrB.later (by repeat' (first | exact Below.refl _ _ | refine Below.drew ?_ | refine below_drewN ?_ _ | refine Below.alloc ?_ (by first | omega | (simp <;> omega)) _ | refine Below.setCell ?_ (by first | omega | (simp <;> omega)) _ | refine Below.trans ?_ (Below.mono (by assumption) (by first | omega | (simp <;> omega)))))); (exact HD.out.symm); (omega); rintro e w7 ⟨rfl, hw7⟩; have hs7 := hw7.size; (try simp at hs7); (have z1 : w7.cell? ⟨w6.heap.size, 1, none⟩ = some (.slice pC (n + 1) cC) := (hw7.cell (p := ⟨w6.heap.size, 1, none⟩) (by simp <;> omega)).trans (by simp [go_sem])); (replace hrC : Row .i64 w7 pC D3 := Row.later (hrC.later (by repeat' (first | exact Below.refl _ _ | refine Below.drew ?_ | refine below_drewN ?_ _ | refine Below.alloc ?_ (by first | omega | (simp <;> omega)) _ | refine Below.setCell ?_ (by first | omega | (simp <;> omega)) _ | refine Below.trans ?_ (Below.mono (by assumption) (by first | omega | (simp <;> omega)))))) hw7); (obtain ⟨bC, oC, rfl, hlC, hcC⟩ := hrC.at (i := n) (by rw [HD3.out]; omega)); (have cC1 := hcC n (by rw [HD3.out]; omega)); (rw [HL.out] at cC1); (try simp only [Nat.zero_add] at cC1); clear hcC) | (go_at_call 42; refine (awake7 _).mono ?_; rintro e w1 ⟨rfl, hb⟩; have hsz := hb.size; (try simp at hsz)))
      all_goals go_light
      all_goals (try simp only [beq_iff_eq, beq_eq_false_iff_ne, bne_iff_ne, bne_eq_false_iff_eq, ne_eq] at *)
      all_goals
        refine bodyPost_ret (v := .bool true) (by simp [results, Try.results9, go_sem, *]) rfl ⟨rfl, ?_⟩
        repeat' (first | exact Below.refl _ _ | refine Below.drew ?_ | refine below_drewN ?_ _ | refine Below.alloc ?_ (by first | omega | (simp <;> omega)) _ | refine Below.setCell ?_ (by first | omega | (simp <;> omega)) _ | refine Below.trans ?_ (Below.mono (by assumption) (by first | omega | (simp <;> omega))))

set_option maxHeartbeats 1000000 in
theorem normScales_w (a : Option Addr) (xs : List Int) (cap : Nat) (by_ log : Int) (w : World) (ha : Row .i64 w a xs) (hl : xs.length ≤ 9223372036854775807) :
    Calls Try.prog 9 #[.slice a xs.length cap, .int .i64 by_, .int .i64 log] w fun e w' => e = .returned (.bool true) ∧ Below w.heap.size w w' := by
  obtain ⟨o1, o2, o3, o4, o5, o6⟩ := cnts_ok xs
  have k1 := Int.emod_nonneg by_ (b := 9) (by omega)
  have k2 := Int.emod_lt_of_pos by_ (b := 9) (by omega)
  obtain ⟨K, hK⟩ : ∃ K, by_ % 9 = K - 1 := ⟨by_ % 9 + 1, by omega⟩
  obtain ⟨s1, s2⟩ := scale_ok xs K (by omega) (by omega)
  have hbd := cnts_bd xs
  have qC := fun w h => counts_t a xs cap w h hl (cnts xs) _ _ rfl rfl rfl
  generalize cnts xs = Y at *
  obtain ⟨n, hn⟩ : ∃ n, Y.length = n + 1 := ⟨Y.length - 1, by omega⟩
  obtain ⟨c1, c2, c3⟩ := lone_ok n K (by omega) (by omega) (by omega)
  have m1 := Int.emod_nonneg log (b := 7) (by omega)
  have m2 := Int.emod_lt_of_pos log (b := 7) (by omega)
  obtain ⟨m0, hm0⟩ : ∃ m0 : Nat, log % 7 = (m0 : Int) := ⟨(log % 7).toNat, by omega⟩
  have hp := pow_mono12 (6 + m0) (by omega) (by omega)
  have p1 := pow_le12 (6 + m0) (by omega)
  have ol : ∀ Z : List Int, (occ 0 Z).length ≤ Z.length := fun Z => by rw [occ_len]; exact List.length_filter_le _ _
  have v1 := with_val o6 o4 (6 + m0) (by omega) (by omega) (by have := ol Y; omega)
  have v2 := with_val s1 s2 (6 + m0) (by omega) (by omega) (by have := ol (Y.map (· * K)); rw [List.length_map] at this; omega)
  have v3 := with_val c1 c2 (6 + m0) (by omega) (by omega) (by have := ol (lone n K); rw [lone_len] at this; omega)
  rw [dist_scale (by omega)] at v2
  have e6 : ((6 + m0 : Nat) : Int) = 6 + (m0 : Int) := by omega
  rw [e6] at v1 v2 v3
  obtain ⟨d1, d2⟩ := lone_dist n K (6 + m0) (by omega) (by omega) (by omega) (by omega) (by omega)
  have hml := many_le Y
  have hdl := dist0_len Y (6 + m0)
  rw [hn] at qC
  refine normScales_1 a xs cap by_ log w ha hl Y (dist0 Y (6 + m0)) (dist0 (lone n K) (6 + m0)) Y.sum ((2 : Int) ^ (6 + m0)) K n (many Y) m0 (by omega) (Lib.hid hn) (Lib.hid hdl) (Lib.hid d1) (by omega) (by omega) (IntWalk.wrap64_in _ (by omega)) (by omega) (by omega) (Lib.hid hbd) (Lib.hid d2) qC ?_ ?_ ?_ ?_ ?_
  · intro w
    have := modK by_ 9 (by omega) (by omega) w
    rwa [hK] at this
  · intro w
    have := modK log 7 (by omega) (by omega) w
    rwa [hm0] at this
  · intro w pa ca h
    exact with_x pa Y (n + 1) ca _ w hn.symm h (by omega) _ _ _ 0 v1 hdl.symm
  · intro w pa ca h
    exact with_x pa (Y.map (· * K)) (n + 1) ca _ w (by rw [List.length_map]; exact hn.symm) h (by omega) _ _ _ 0 v2 hdl.symm
  · intro w pa ca h
    exact with_x pa (lone n K) (n + 1) ca _ w (lone_len n K).symm h (by omega) _ _ _ 0 v3 d1.symm
end Go.Proofs.Ytgponpjlkebjcaa
