/-
  NormShares, walked.
-/
import Derived.Test.YtgponpjlkebjcaaRows
import Derived.Test.YtgponpjlkebjcaaNormPlain3
import Derived.Test.YtgponpjlkebjcaaCommon
import Derived.Deep.Light
import Derived.Shelf.Abstract
import Derived.Shelf.RegionOpen
import Derived.OwnWalkIn
import Derived.TacticsInMore
import Derived.LoopNIn
import Derived.LoopIn
import Derived.Outline
namespace Go.Proofs.Ytgponpjlkebjcaa
open Go.RowKit
set_option linter.unusedSimpArgs false
set_option linter.unusedVariables false
attribute [local go_sem] Oper.semAt_some

set_option maxRecDepth 100000 in
set_option maxHeartbeats 8000000 in
theorem normShares_1 (a : Option Addr) (xs : List Int) (cap : Nat) (log : Int) (w : World) (ha : Row .i64 w a xs) (hl : xs.length ≤ 9223372036854775807) (Y D : List Int) (S : Int) (n k m0 : Nat)
    (hn1 : 1 ≤ n) (hn4 : n ≤ 40) (HY : Hid (Y.length = n)) (HD : Hid (D.length = k)) (hk1 : 1 ≤ k) (hkn : k ≤ n) (hm0 : m0 < 7) (hS : 0 < S) (hS2 : S ≤ 41943040)
    (HB : Hid (∀ i, 0 ≤ Y.getD i 0 ∧ Y.getD i 0 ≤ 1048576)) (HP : Hid (0 ≤ (2 : Int) ^ (6 + m0) ∧ (2 : Int) ^ (6 + m0) ≤ 4096)) (HF : Hid (fair Y D)) (HLe : Hid (∀ i, i < k → i ≠ amx Y → D.getD i 0 ≤ Y.getD i 0 * 2 ^ (6 + m0) / S)) (HW : Hid (∀ i, i < k → -1 ≤ D.getD i 0 ∧ wgh (D.getD i 0) ≤ 4096))
    (qC : ∀ w, Row .i64 w a xs → Calls Try.prog 50 #[.slice a xs.length cap] w (CntPost n S Y w))
    (qM : ∀ w, Calls Try.prog 41 #[.int .i64 log, .int .i64 7] w fun e' w' => e' = .returned (.int .i64 (m0 : Int)) ∧ Below w.heap.size w w')
    (qA : ∀ w pa ca, Row .i64 w pa Y → Calls Try.prog 48 #[.slice pa n ca, .int .i64 (6 + (m0 : Int))] w fun e w' => ∃ pd cd, e = .returned (.tuple #[.agg #[.int .i64 (6 + (m0 : Int)), .slice pd k cd], .int .i64 0]) ∧ Row .i64 w' pd D ∧ Below w.heap.size w w') :
    Calls Try.prog 10 #[.slice a xs.length cap, .int .i64 log] w fun e w' => e = .returned (.bool true) ∧ Below w.heap.size w w' := by
  have g3 : ¬ (n : Int) < (k : Int) := by omega
  have g5 : ¬ n < k := by omega
  have g6 : decide (n < k) = false := decide_eq_false g5
  have g4 : ((k : Int) == 0) = false := by rw [beq_eq_false_iff_ne]; omega
  go_enter Try.func10, Try.ntmps10
  go_wp2_with (first | (go_at_call 50; refine (qC _ (ha.later (by repeat' (first | exact Below.refl _ _ | refine Below.drew ?_ | refine below_drewN ?_ _ | refine Below.alloc ?_ (by first | omega | (simp <;> omega)) _ | refine Below.setCell ?_ (by first | omega | (simp <;> omega)) _ | refine Below.trans ?_ (Below.mono (by assumption) (by first | omega | (simp <;> omega))))))).mono ?_; rintro e w1 ⟨pY, cY, rfl, hrY, hb1⟩; have hs1 := hb1.size) | (go_at_call 41; refine (qM _).mono ?_; rintro e w2 ⟨rfl, hb2⟩; have hs2 := hb2.size; replace hrY := Row.later hrY hb2) | (go_at_call 48; refine (qA _ _ _ hrY).mono ?_; rintro e w3 ⟨pD, cD, rfl, hrD, hb3⟩; have hs3 := hb3.size; replace hrY := Row.later hrY hb3))
  obtain ⟨W4, hW4⟩ : ∃ W4, w3.alloc (.cells #[.int .i64 (6 + (m0 : Int)), .slice pD k cD] 51) = W4 := ⟨_, rfl⟩
  have hb4 : Below w.heap.size w W4 := by
    rw [← hW4]
    repeat' (first | exact Below.refl _ _ | refine Below.drew ?_ | refine below_drewN ?_ _ | refine Below.alloc ?_ (by first | omega | (simp <;> omega)) _ | refine Below.setCell ?_ (by first | omega | (simp <;> omega)) _ | refine Below.trans ?_ (Below.mono (by assumption) (by first | omega | (simp <;> omega))))
  have x0 : W4.cell? ⟨w3.heap.size, 0, none⟩ = some (.int .i64 (6 + (m0 : Int))) := by rw [← hW4]; simp [go_sem]
  have x1 : W4.cell? ⟨w3.heap.size, 1, none⟩ = some (.slice pD k cD) := by rw [← hW4]; simp [go_sem]
  have hrD4 : Row .i64 W4 pD D := by rw [← hW4]; exact hrD.later ((Below.refl _ _).alloc (Nat.le_refl _) _)
  have hrY4 : Row .i64 W4 pY Y := by rw [← hW4]; exact hrY.later ((Below.refl _ _).alloc (Nat.le_refl _) _)
  have hs4 : w3.heap.size < W4.heap.size := by rw [← hW4]; simp
  rw [hW4]
  have hwW := hb4.size
  clear hW4 hrD hrY hb1 hb2 hb3 hs1 hs2 hs3 qC qM qA
  obtain ⟨BX, hBX⟩ : ∃ BX, w3.heap.size = BX := ⟨_, rfl⟩
  rw [hBX] at x0 x1 hs4 ⊢
  clear hBX
  go_loopw [10, 11] (fun b v wr => ∃ (j m : Nat), j ≤ n ∧ v = .int .i64 (j : Int) ∧ b = .int .i64 (m : Int) ∧ Hid (amF Y j = m) ∧ (0 < j → m < j) ∧ Below W4.heap.size W4 wr) (fun _ v _ => n - (intOf v).toNat)
  case atStart => exact ⟨0, 0, by omega, rfl, rfl, rfl, by omega, Below.refl _ _⟩
  case round =>
    obtain ⟨j, m, hj, rfl, rfl, HM, hm, hb⟩ := hrel
    by_cases hlt : j < n
    · have hmk : m < j + 1 := by
        by_cases h0 : 0 < j
        · have := hm h0; omega
        · have h1 := HM.out
          have : j = 0 := by omega
          subst this
          simp [amF] at h1
          omega
      obtain ⟨bY, oY, rfl, hbY, hcY⟩ := (hrY4.later hb).at (i := j) (by rw [HY.out]; exact hlt)
      have c1 := hcY j (by rw [HY.out]; exact hlt)
      have c2 := hcY m (by rw [HY.out]; omega)
      obtain ⟨x, hx⟩ : ∃ x, Y.getD j 0 = x := ⟨_, rfl⟩
      obtain ⟨y, hy⟩ : ∃ y, Y.getD m 0 = y := ⟨_, rfl⟩
      rw [hx] at c1
      rw [hy] at c2
      have hsu : amF Y (j + 1) = if y < x then j else m := by
        rw [← hx, ← hy, ← HM.out]
        rfl
      have HSU := Lib.hid hsu
      have i0 : (0 : Int) ≤ (j : Int) := by omega
      have i1 : (j : Int) < (n : Int) := by omega
      have i2 : (0 : Int) ≤ (m : Int) := by omega
      have i3 : (m : Int) < (n : Int) := by omega
      have hmm : m < n := by omega
      (try simp only [Nat.zero_add] at c1 c2)
      clear hcY hx hy hsu g3 g4 hm x0 x1
      by_cases hyx : y < x
      · have HS2 : Hid (amF Y (j + 1) = j) := Lib.hid (by rw [HSU.out, if_pos hyx])
        have d1 : decide (y < x) = true := decide_eq_true hyx
        go_wp2
        go_quiet (fail)
        go_wp2
        go_roundw
        case rel => exact ⟨j + 1, j, by omega, by go_num, rfl, HS2, by omega, below_drewN hb _⟩
        case measure => go_light; simp [intOf] <;> omega
      · have HS2 : Hid (amF Y (j + 1) = m) := Lib.hid (by rw [HSU.out, if_neg hyx])
        have d1 : decide (y < x) = false := decide_eq_false hyx
        go_wp2
        go_quiet (fail)
        go_wp2
        go_roundw
        case rel => exact ⟨j + 1, m, by omega, by go_num, rfl, HS2, by omega, below_drewN hb _⟩
        case measure => go_light; simp [intOf] <;> omega
    · obtain rfl : n = j := by omega
      have HMX : Hid (amx Y = m) := Lib.hid (by unfold amx; rw [HY.out]; exact HM.out)
      have hbl := hb.size
      have y1 := (hb.cell (p := ⟨BX, 1, none⟩) (by simp; omega)).trans x1
      replace hrD4 := hrD4.later hb
      replace hrY4 := hrY4.later hb
      replace hb4 := hb4.trans (hb.mono hwW)
      clear hb hm HM x0 x1 g3 g4
      have hsV : BX < wr.heap.size := by omega
      have hwV := hb4.size
      clear hs4 hwW hbl hj hlt
      obtain ⟨V, rfl⟩ : ∃ V, V = wr := ⟨_, rfl⟩
      go_wp2
      go_loopw [12] (fun v ws => ∃ i : Nat, v = .int .i64 (i : Int) ∧ i ≤ k ∧ Below V.heap.size V ws) (fun v _ => k - (intOf v).toNat)
      case atStart => exact ⟨0, rfl, by omega, Below.refl _ _⟩
      case round =>
        obtain ⟨i, rfl, hi, hbs⟩ := hrel
        obtain ⟨U, rfl⟩ : ∃ U, U = wr := ⟨_, rfl⟩
        by_cases hik : i < k
        · obtain ⟨bY, oY, rfl, _, _⟩ := hrY4.at (i := i) (by rw [HY.out]; omega)
          obtain ⟨bD, oD, rfl, _, _⟩ := hrD4.at (i := i) (by rw [HD.out]; omega)
          have p0 : (0 : Int) ≤ (i : Int) := by omega
          have p1 : (i : Int) < (n : Int) := by omega
          have p2 : (i : Int) < (k : Int) := by omega
          have z1 := (hbs.cell (p := ⟨BX, 1, none⟩) (by simpa using hsV)).trans y1
          go_wp2
          go_loopw [13] (fun v wt => ∃ t : Nat, v = .int .i64 (t : Int) ∧ t ≤ k ∧ Below V.heap.size V wt) (fun v _ => k - (intOf v).toNat)
          case atStart => exact ⟨0, rfl, by omega, hbs⟩
          case round =>
            clear z1 hbs
            obtain ⟨t, rfl, ht, hbt⟩ := hrel
            have z1 := (hbt.cell (p := ⟨BX, 1, none⟩) (by simpa using hsV)).trans y1
            obtain ⟨b1, o1, he1, _, hc1⟩ := (hrY4.later hbt).at (i := i) (by rw [HY.out]; omega)
            obtain ⟨b2, o2, he2, _, hc2⟩ := (hrD4.later hbt).at (i := i) (by rw [HD.out]; omega)
            cases he1
            cases he2
            have cs := hc1 i (by rw [HY.out]; omega)
            have ds := hc2 i (by rw [HD.out]; omega)
            obtain ⟨ys, hys⟩ : ∃ y, Y.getD i 0 = y := ⟨_, rfl⟩
            obtain ⟨q, hq⟩ : ∃ q, D.getD i 0 = q := ⟨_, rfl⟩
            rw [hys] at cs
            rw [hq] at ds
            (try simp only [Nat.zero_add] at cs ds)
            by_cases htk : t < k
            · have ct := hc1 t (by rw [HY.out]; omega)
              have dt := hc2 t (by rw [HD.out]; omega)
              obtain ⟨yt, hyt⟩ : ∃ y, Y.getD t 0 = y := ⟨_, rfl⟩
              obtain ⟨r, hr⟩ : ∃ q, D.getD t 0 = q := ⟨_, rfl⟩
              have hf := HF.out i t (by rw [HD.out]; exact hik) (by rw [HD.out]; exact htk)
              obtain ⟨f1, f2⟩ := HW.out t htk
              rw [hyt] at ct
              rw [hr] at dt
              rw [hys, hyt, hq, hr] at hf
              rw [hr] at f1 f2
              have f3 := wgh_nn r
              have p3 : (0 : Int) ≤ (t : Int) := by omega
              have p4 : (t : Int) < (n : Int) := by omega
              have p5 : (t : Int) < (k : Int) := by omega
              have hin : i < n := by omega
              have htn : t < n := by omega
              (try simp only [Nat.zero_add] at ct dt)
              have e5 : wrap64 (wgh r - 1) = wgh r - 1 := IntWalk.wrap64_in _ (by omega)
              clear hc1 hc2 hys hq hyt hr
              by_cases hlt2 : yt < ys
              · have d1 : decide (yt < ys) = true := decide_eq_true hlt2
                have d2 : decide (wgh q < wgh r - 1) = false := decide_eq_false (by have := hf hlt2; omega)
                have d3 : ¬ wgh q < wgh r - 1 := by have := hf hlt2; omega
                clear hf
                go_wp2
                go_quiet ((go_at_call 51; exact Calls.quiet_of_same (weight_s _ _)))
                go_wp2
                go_roundw
                case rel => exact ⟨t + 1, by go_num, by omega, below_drewN hbt _⟩
                case measure => go_light; simp [intOf] <;> omega
              · have d1 : decide (yt < ys) = false := decide_eq_false hlt2
                clear hf
                go_wp2
                go_quiet ((go_at_call 51; exact Calls.quiet_of_same (weight_s _ _)))
                go_wp2
                go_roundw
                case rel => exact ⟨t + 1, by go_num, by omega, below_drewN hbt _⟩
                case measure => go_light; simp [intOf] <;> omega
            · obtain rfl : k = t := by omega
              clear hc1 hc2
              obtain ⟨q0, q1⟩ := HB.out i
              obtain ⟨q2, q3⟩ := HP.out
              rw [hys] at q0 q1
              have hle := fun h => HLe.out i hik h
              rw [HMX.out, hys, hq] at hle
              have q4 := Int.mul_nonneg q0 q2
              have q5 := Int.mul_le_mul q1 q3 q2 (by omega)
              have q6 := Int.ediv_nonneg q4 (show 0 ≤ S by omega)
              have q7 := Int.ediv_le_self S q4
              have e6 : wrap64 (ys * 2 ^ (6 + m0)) = ys * 2 ^ (6 + m0) := IntWalk.wrap64_in _ (by omega)
              have e7 : (ys * 2 ^ (6 + m0)).tdiv S = ys * 2 ^ (6 + m0) / S := Int.tdiv_eq_ediv_of_nonneg q4
              have e8 : wrap64 (ys * 2 ^ (6 + m0) / S) = ys * 2 ^ (6 + m0) / S := IntWalk.wrap64_in _ (by omega)
              have e9 : ¬ S = 0 := by omega
              have hin : i < n := by omega
              clear hys hq q2 q3 q5
              by_cases him : i = m
              · have u1 : ((i : Int) == (m : Int)) = true := by rw [beq_iff_eq]; omega
                clear hle
                go_wp2
                go_quiet (fail)
                go_wp2
                go_roundw
                case rel => exact ⟨i + 1, by go_num, by omega, below_drewN hbt _⟩
                case measure => go_light; simp [intOf] <;> omega
              · have u1 : ((i : Int) == (m : Int)) = false := by rw [beq_eq_false_iff_ne]; omega
                have d4 : ¬ ys * 2 ^ (6 + m0) / S < q := by have := hle him; omega
                have d5 : decide (ys * 2 ^ (6 + m0) / S < q) = false := decide_eq_false d4
                have u2 : ((i : Int) != (m : Int)) = true := by simp; omega
                have u3 : ¬ (i : Int) = (m : Int) := by omega
                clear hle him
                go_wp2
                go_quiet (fail)
                go_wp2
                go_roundw
                case rel => exact ⟨i + 1, by go_num, by omega, below_drewN hbt _⟩
                case measure => go_light; simp [intOf] <;> omega
        · obtain rfl : k = i := by omega
          have z1 := (hbs.cell (p := ⟨BX, 1, none⟩) (by simpa using hsV)).trans y1
          have hbw := hb4.trans (hbs.mono hwV)
          have hws := hbw.size
          clear hrY4 hrD4 hb4 hbs y1
          go_wp2_with ((go_at_call 42; refine (awake7 _).mono ?_; rintro e w1 ⟨rfl, hb⟩; have hsz := hb.size; (try simp at hsz)))
          all_goals go_light
          all_goals (try simp only [beq_iff_eq, beq_eq_false_iff_ne, bne_iff_ne, bne_eq_false_iff_eq, ne_eq] at *)
          all_goals
            refine bodyPost_ret (v := .bool true) (by simp [results, Try.results10, go_sem, *]) rfl ⟨rfl, ?_⟩
            repeat' (first | exact hbw | refine Below.drew ?_ | refine below_drewN ?_ _ | refine Below.alloc ?_ (by first | omega | (simp <;> omega)) _ | refine Below.setCell ?_ (by first | omega | (simp <;> omega)) _ | refine Below.trans ?_ (Below.mono (by assumption) (by first | omega | (simp <;> omega))))

set_option maxHeartbeats 1000000 in
theorem normShares_w (a : Option Addr) (xs : List Int) (cap : Nat) (log : Int) (w : World) (ha : Row .i64 w a xs) (hl : xs.length ≤ 9223372036854775807) :
    Calls Try.prog 10 #[.slice a xs.length cap, .int .i64 log] w fun e w' => e = .returned (.bool true) ∧ Below w.heap.size w w' := by
  obtain ⟨o1, o2, o3, o4, o5, o6⟩ := cnts_ok xs
  have hbd := cnts_bd xs
  have qC := fun w h => counts_t a xs cap w h hl (cnts xs) _ _ rfl rfl rfl
  generalize cnts xs = Y at *
  have m1 := Int.emod_nonneg log (b := 7) (by omega)
  have m2 := Int.emod_lt_of_pos log (b := 7) (by omega)
  obtain ⟨m0, hm0⟩ : ∃ m0 : Nat, log % 7 = (m0 : Int) := ⟨(log % 7).toNat, by omega⟩
  have hp := pow_mono12 (6 + m0) (by omega) (by omega)
  have p1 := pow_le12 (6 + m0) (by omega)
  have ol : (occ 0 Y).length ≤ Y.length := by rw [occ_len]; exact List.length_filter_le _ _
  have v1 := with_val o6 o4 (6 + m0) (by omega) (by omega) (by omega)
  have e6 : ((6 + m0 : Nat) : Int) = 6 + (m0 : Int) := by omega
  rw [e6] at v1
  have hml := many_le Y
  have hdl := dist0_len Y (6 + m0)
  have hmp := many_pos o3 o4
  obtain ⟨s1, s2⟩ := dist_spec o3 o4 (l := 6 + m0) (by omega) (by omega)
  obtain ⟨f1, f2⟩ := dist_fair (l := 6 + m0) o3 o4
  refine normShares_1 a xs cap log w ha hl Y (dist0 Y (6 + m0)) Y.sum Y.length (many Y) m0 o1 o2 (Lib.hid rfl) (Lib.hid hdl) (by omega) hml (by omega) o4 o5 (Lib.hid hbd) (Lib.hid p1) (Lib.hid f1) (Lib.hid f2) (Lib.hid fun i hi => ⟨(s2 i hi).1, by have := wgh_le_sum (dist0 Y (6 + m0)) i (by omega); omega⟩) qC ?_ ?_
  · intro w
    have := modK log 7 (by omega) (by omega) w
    rwa [hm0] at this
  · intro w pa ca h
    exact with_x pa Y Y.length ca _ w rfl h (by omega) _ _ _ 0 v1 hdl.symm
end Go.Proofs.Ytgponpjlkebjcaa
