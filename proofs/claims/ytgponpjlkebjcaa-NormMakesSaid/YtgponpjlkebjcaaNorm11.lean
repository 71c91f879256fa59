/-
  NormSizes, walked.
-/
import Derived.Test.YtgponpjlkebjcaaRows
import Derived.Test.YtgponpjlkebjcaaNorm10
import Derived.Test.YtgponpjlkebjcaaNormPlain2
import Derived.Test.YtgponpjlkebjcaaCommon
import Derived.Deep.Light
import Derived.Shelf.Abstract
import Derived.Shelf.RegionOpen
import Derived.OwnWalkIn
import Derived.TacticsInMore
import Derived.LoopNIn
import Derived.LoopIn
import Derived.Outline
namespace Go.Proofs.Ytgponpjlkebjcaa
open Go.RowKit
set_option linter.unusedSimpArgs false
set_option linter.unusedVariables false
attribute [local go_sem] Oper.semAt_some

theorem cnts_ok (xs : List Int) : 1 ≤ (cnts xs).length ∧ (cnts xs).length ≤ 40 ∧ rng (cnts xs) = true ∧ 0 < (cnts xs).sum ∧ (cnts xs).sum ≤ 41943040 ∧ cchk (cnts xs) = 0 := by
  have h1 : (cnts xs).length = max 1 (min 40 xs.length) := by unfold cnts; rw [cq_len, List.length_take]
  have hbd : ∀ k, 0 ≤ (cnts xs).getD k 0 ∧ (cnts xs).getD k 0 ≤ 1048576 := cq_bd _
  have hr : rng (cnts xs) = true := by
    unfold rng
    rw [List.all_eq_true]
    intro y hy
    obtain ⟨k, hk, rfl⟩ := List.getElem_of_mem hy
    have := hbd k
    rw [List.getD_eq_getElem?_getD, List.getElem?_eq_getElem hk] at this
    simp at this ⊢
    omega
  have h2 := sum_bd _ hbd (cnts xs).length (Nat.le_refl _)
  rw [List.take_length] at h2
  have h3 : 1 ≤ (cnts xs).getD 0 0 := by
    unfold cnts
    cases xs.take 40 with
    | nil => simp [cq]
    | cons v r => have := cval_bd v; simp [cq]; omega
  have h4 := sum_ge _ 0 hr (by omega)
  exact ⟨by omega, by omega, hr, by omega, by omega, cchk_zero (by omega) hr (by omega)⟩
theorem chk_val {Y : List Int} (h : cchk Y = 0) (hs : 0 < Y.sum) : rChk Y = (Y.sum, (((occ 0 Y).length : Nat) : Int), 0) := by
  have := occ_sum (cchk_ok h).2.1
  unfold rChk
  rw [if_pos h, if_neg (fun h0 => by have := this.1 h0; omega)]
theorem with_val {Y : List Int} (h : cchk Y = 0) (hs : 0 < Y.sum) (l : Nat) (h5 : 5 ≤ l) (h12 : l ≤ 12) (hd : (((occ 0 Y).length : Nat) : Int) ≤ (2 : Int) ^ l) : rWith Y (l : Int) = (((l : Int), dist0 Y l), 0) := by
  unfold rWith
  rw [chk_val h hs]
  simp only
  rw [if_neg (by simp), if_neg (by omega), Int.toNat_natCast, if_neg (by omega)]
theorem pow_mono12 (m : Nat) (h : 6 ≤ m) (h12 : m ≤ 12) : 64 ≤ (2 : Int) ^ m := by
  have key : ∀ k : Fin 7, 64 ≤ (2 : Int) ^ (6 + k.1) := by decide
  have := key ⟨m - 6, by omega⟩
  simpa [show 6 + (m - 6) = m by omega] using this
theorem pow_le12 (m : Nat) (h : m ≤ 12) : 0 ≤ (2 : Int) ^ m ∧ (2 : Int) ^ m ≤ 4096 := by
  have key : ∀ k : Fin 13, 0 ≤ (2 : Int) ^ k.1 ∧ (2 : Int) ^ k.1 ≤ 4096 := by decide
  exact key ⟨m, by omega⟩
theorem rng_getD0 {Y : List Int} (h : rng Y = true) (i : Nat) : 0 ≤ Y.getD i 0 := by
  by_cases hi : i < Y.length
  · exact rng_get h i
  · rw [List.getD_eq_getElem?_getD, List.getElem?_eq_none (by omega)]
    simp
theorem log_val {Y : List Int} (h : cchk Y = 0) (hs : 0 < Y.sum) (hlen : Y.length ≤ 40) (m : Nat) (h6 : 6 ≤ m) (h12 : m ≤ 12) :
    ∃ lg : Nat, rLog Y (m : Int) = ((lg : Int), 0) ∧ 5 ≤ lg ∧ lg ≤ m ∧ (((occ 0 Y).length : Nat) : Int) ≤ (2 : Int) ^ lg ∧ rOf Y (m : Int) = (((lg : Int), dist0 Y lg), 0) := by
  have hc := chk_val h hs
  have hol : (occ 0 Y).length ≤ Y.length := by rw [occ_len]; exact List.length_filter_le _ _
  have hp := pow_mono12 m h6 h12
  obtain ⟨G, hG⟩ : ∃ G, lgw Y.sum.toNat (occ 0 Y).length = G := ⟨_, rfl⟩
  have hG5 : 5 ≤ G ∧ hi (occ 0 Y).length + 1 ≤ G := by
    rw [← hG]
    unfold lgw
    split <;> omega
  have hL : rLog Y (m : Int) = (min (m : Int) G, 0) := by
    unfold rLog
    rw [hc]
    simp only
    rw [if_neg (by simp), if_neg (by omega), Int.toNat_natCast, if_neg (by omega), Int.toNat_natCast, hG]
  obtain ⟨lg, hlg⟩ : ∃ lg : Nat, min (m : Int) G = (lg : Int) := ⟨(min (m : Int) G).toNat, by omega⟩
  have hd : (((occ 0 Y).length : Nat) : Int) ≤ (2 : Int) ^ lg := by
    by_cases hm : (m : Int) ≤ G
    · have : lg = m := by omega
      rw [this]
      omega
    · have h7 := hi_shift (occ 0 Y).length lg
      have h8 : ¬ 0 < (occ 0 Y).length / 2 ^ lg := fun h9 => by have := h7.1 h9; omega
      have h9 : (occ 0 Y).length < 2 ^ lg := by
        rcases Nat.lt_or_ge (occ 0 Y).length (2 ^ lg) with h10 | h10
        · exact h10
        · exact absurd (Nat.div_pos h10 (Nat.pow_pos (by omega))) h8
      have h10 : ((2 ^ lg : Nat) : Int) = (2 : Int) ^ lg := by simp
      omega
  refine ⟨lg, by rw [hL, hlg], by omega, by omega, hd, ?_⟩
  unfold rOf
  rw [hL, hlg]
  simp only
  rw [if_neg (by simp)]
  exact with_val h hs lg (by omega) (by omega) hd
set_option maxRecDepth 100000 in
set_option maxHeartbeats 8000000 in
theorem normSizes_1 (a : Option Addr) (xs : List Int) (cap : Nat) (most : Int) (w : World) (ha : Row .i64 w a xs) (hl : xs.length ≤ 9223372036854775807) (Y D : List Int) (S P : Int) (n k m0 lg : Nat)
    (hn1 : 1 ≤ n) (hn4 : n ≤ 40) (HY : Hid (Y.length = n)) (HD : Hid (D.length = k)) (hk1 : 1 ≤ k) (hkn : k ≤ n) (hm0 : m0 < 7) (hlg5 : 5 ≤ lg) (hlgm : lg ≤ 6 + m0) (gP : wrap64 ((2 : Int) ^ lg) = P)
    (HZ : Hid (∀ i, i < k → -1 ≤ D.getD i 0 ∧ (D.getD i 0 = 0 ↔ ¬ 0 < Y.getD i 0))) (HN : Hid (∀ i, 0 ≤ Y.getD i 0 ∧ (k ≤ i → ¬ 0 < Y.getD i 0))) (HLast : Hid (0 < Y.getD (k - 1) 0))
    (qC : ∀ w, Row .i64 w a xs → Calls Try.prog 50 #[.slice a xs.length cap] w (CntPost n S Y w))
    (qM : ∀ w, Calls Try.prog 41 #[.int .i64 most, .int .i64 7] w fun e' w' => e' = .returned (.int .i64 (m0 : Int)) ∧ Below w.heap.size w w')
    (qO : ∀ w pa ca, Row .i64 w pa Y → Calls Try.prog 45 #[.slice pa n ca, .int .i64 (6 + (m0 : Int))] w fun e w' => ∃ pd cd, e = .returned (.tuple #[.agg #[.int .i64 (lg : Int), .slice pd k cd], .int .i64 0]) ∧ Row .i64 w' pd D ∧ Below w.heap.size w w')
    (qL : ∀ w pa ca, Row .i64 w pa Y → Calls Try.prog 43 #[.slice pa n ca, .int .i64 (6 + (m0 : Int))] w fun e w' => e = .returned (.tuple #[.int .i64 (lg : Int), .int .i64 0]) ∧ Below w.heap.size w w')
    (qS : ∀ w pd cd, Row .i64 w pd D → Calls Try.prog 53 #[.slice pd k cd] w fun e w' => e = .returned (.tuple #[.int .i64 P, .int .i64 0]) ∧ w' = w) :
    Calls Try.prog 13 #[.slice a xs.length cap, .int .i64 most] w fun e w' => e = .returned (.bool true) ∧ Below w.heap.size w w' := by
  have g1 : ¬ (lg : Int) < 5 := by omega
  have g2 : ¬ 6 + (m0 : Int) < (lg : Int) := by omega
  have g3 : ¬ (n : Int) < (k : Int) := by omega
  have g4 : (lg : Int) ≤ 12 := by omega
  go_enter Try.func13, Try.ntmps13
  go_wp2_with (first | (go_at_call 50; refine (qC _ (ha.later (by repeat' (first | exact Below.refl _ _ | refine Below.drew ?_ | refine below_drewN ?_ _ | refine Below.alloc ?_ (by first | omega | (simp <;> omega)) _ | refine Below.setCell ?_ (by first | omega | (simp <;> omega)) _ | refine Below.trans ?_ (Below.mono (by assumption) (by first | omega | (simp <;> omega))))))).mono ?_; rintro e w1 ⟨pY, cY, rfl, hrY, hb1⟩; have hs1 := hb1.size) | (go_at_call 41; refine (qM _).mono ?_; rintro e w2 ⟨rfl, hb2⟩; have hs2 := hb2.size; replace hrY := Row.later hrY hb2) | (go_at_call 45; refine (qO _ _ _ hrY).mono ?_; rintro e w3 ⟨pD, cD, rfl, hrD, hb3⟩; have hs3 := hb3.size; replace hrY := Row.later hrY hb3) | (go_at_call 43; refine (qL _ _ _ (hrY.later (by repeat' (first | exact Below.refl _ _ | refine Below.drew ?_ | refine below_drewN ?_ _ | refine Below.alloc ?_ (by first | omega | (simp <;> omega)) _ | refine Below.setCell ?_ (by first | omega | (simp <;> omega)) _ | refine Below.trans ?_ (Below.mono (by assumption) (by first | omega | (simp <;> omega))))))).mono ?_; rintro e w4 ⟨rfl, hb4⟩; have hs4 := hb4.size; (try simp at hs4); (have x0 : w4.cell? ⟨w3.heap.size, 0, none⟩ = some (.int .i64 (lg : Int)) := (hb4.cell (p := ⟨w3.heap.size, 0, none⟩) (by simp)).trans (by simp [go_sem])); (have x1 : w4.cell? ⟨w3.heap.size, 1, none⟩ = some (.slice pD k cD) := (hb4.cell (p := ⟨w3.heap.size, 1, none⟩) (by simp)).trans (by simp [go_sem])); (have hrD4 : Row .i64 w4 pD D := (hrD.later ((Below.refl _ w3).alloc (Nat.le_refl _) _)).later hb4); (have hrY4 : Row .i64 w4 pY Y := (hrY.later ((Below.refl _ w3).alloc (Nat.le_refl _) _)).later hb4)) | (go_at_call 53; refine (qS _ _ _ hrD4).mono ?_; rintro e w5 ⟨rfl, rfl⟩))
  clear qC qM qO qL qS
  go_loop [14] (fun i => ∃ j : Nat, j ≤ n ∧ i = .int .i64 (j : Int)) (fun i => n - (intOf i).toNat)
  case atStart => exact ⟨0, by omega, rfl⟩
  case round =>
    obtain ⟨j, hj, rfl⟩ := hrel
    by_cases hjn : j < n
    · obtain ⟨bY, oY, rfl, hbY, hcY⟩ := hrY4.at (i := j) (by rw [HY.out]; exact hjn)
      have cY1 := hcY j (by rw [HY.out]; exact hjn)
      obtain ⟨y, hy⟩ : ∃ y, Y.getD j 0 = y := ⟨_, rfl⟩
      have hyn := HN.out j
      rw [hy] at cY1 hyn
      have i0' : (0 : Int) ≤ (j : Int) := by omega
      have i1 : (j : Int) < (n : Int) := by omega
      (try simp only [Nat.zero_add] at cY1)
      clear hcY
      by_cases hjk : j < k
      · obtain ⟨bD, oD, rfl, hbD, hcD⟩ := hrD4.at (i := j) (by rw [HD.out]; exact hjk)
        have cD1 := hcD j (by rw [HD.out]; exact hjk)
        obtain ⟨p, hp⟩ : ∃ p, D.getD j 0 = p := ⟨_, rfl⟩
        obtain ⟨hz1, hz2⟩ := HZ.out j hjk
        have hl7 : j = k - 1 → 0 < y := fun h => by have := HLast.out; rw [← h, hy] at this; exact this
        rw [hp] at cD1 hz1 hz2
        rw [hy] at hz2
        have i2 : (j : Int) < (k : Int) := by omega
        have i3 : ¬ p < -1 := by omega
        have h3 : ((p == 0) = true ∧ (y == 0) = true ∧ ((j : Int) == (k : Int) - 1) = false) ∨ ((p == 0) = false ∧ (y == 0) = false ∧ ((j : Int) == (k : Int) - 1) = true) ∨ ((p == 0) = false ∧ (y == 0) = false ∧ ((j : Int) == (k : Int) - 1) = false) := by
          have h8 : y = 0 ∨ 0 < y := by omega
          simp only [beq_iff_eq, beq_eq_false_iff_ne, ne_eq]
          rcases h8 with h8 | h8
          · left
            refine ⟨hz2.2 (by omega), h8, fun h => ?_⟩
            have := hl7 (by omega)
            omega
          · right
            have h9 : p ≠ 0 := fun h => absurd h8 (by have := hz2.1 h; omega)
            by_cases h10 : (j : Int) = (k : Int) - 1
            · left; exact ⟨h9, by omega, h10⟩
            · right; exact ⟨h9, by omega, h10⟩
        clear hcD hp hy hz1 hz2 hl7 hyn
        rcases h3 with ⟨u1, u2, u3⟩ | ⟨u1, u2, u3⟩ | ⟨u1, u2, u3⟩
        all_goals
          go_wp2
          go_round
          case rel => exact ⟨j + 1, by omega, by go_num⟩
          case measure => go_light; simp [intOf] <;> omega
      · have hy0 : y = 0 := by have := hyn.2 (by omega); omega
        have i2 : ¬ (j : Int) < (k : Int) := by omega
        have u3 : ((j : Int) == (k : Int) - 1) = false := by rw [beq_eq_false_iff_ne]; omega
        subst hy0
        clear hyn hy
        go_wp2
        go_round
        case rel => exact ⟨j + 1, by omega, by go_num⟩
        case measure => go_light; simp [intOf] <;> omega
    · obtain rfl : j = n := by omega
      go_wp2_with ((go_at_call 42; refine (awake7 _).mono ?_; rintro e w1 ⟨rfl, hb⟩; have hsz := hb.size; (try simp at hsz)))
      all_goals go_light
      all_goals (try simp only [beq_iff_eq, beq_eq_false_iff_ne, bne_iff_ne, bne_eq_false_iff_eq, ne_eq] at *)
      all_goals
        refine bodyPost_ret (v := .bool true) (by simp [results, Try.results13, go_sem, *]) rfl ⟨rfl, ?_⟩
        repeat' (first | exact Below.refl _ _ | refine Below.drew ?_ | refine below_drewN ?_ _ | refine Below.alloc ?_ (by first | omega | (simp <;> omega)) _ | refine Below.setCell ?_ (by first | omega | (simp <;> omega)) _ | refine Below.trans ?_ (Below.mono (by assumption) (by first | omega | (simp <;> omega))))

set_option maxHeartbeats 1000000 in
theorem normSizes_w (a : Option Addr) (xs : List Int) (cap : Nat) (most : Int) (w : World) (ha : Row .i64 w a xs) (hl : xs.length ≤ 9223372036854775807) :
    Calls Try.prog 13 #[.slice a xs.length cap, .int .i64 most] w fun e w' => e = .returned (.bool true) ∧ Below w.heap.size w w' := by
  obtain ⟨o1, o2, o3, o4, o5, o6⟩ := cnts_ok xs
  have qC := fun w h => counts_t a xs cap w h hl (cnts xs) _ _ rfl rfl rfl
  generalize cnts xs = Y at *
  have m1 := Int.emod_nonneg most (b := 7) (by omega)
  have m2 := Int.emod_lt_of_pos most (b := 7) (by omega)
  obtain ⟨m0, hm0⟩ : ∃ m0 : Nat, most % 7 = (m0 : Int) := ⟨(most % 7).toNat, by omega⟩
  obtain ⟨lg, l1, l2, l3, l4, l5⟩ := log_val o6 o4 o2 (6 + m0) (by omega) (by omega)
  have e6 : ((6 + m0 : Nat) : Int) = 6 + (m0 : Int) := by omega
  rw [e6] at l1 l5
  have hml := many_le Y
  have hsp := dist_spec o3 o4 (l := lg) (by omega) l4
  have hdl := dist0_len Y lg
  have hsm := dist_sum o3 o4 (l := lg) (by omega) l4 (by omega)
  have hmp := many_pos o3 o4
  have hnb := none_beyond Y
  have p1 := pow_le12 lg (by omega)
  refine normSizes_1 a xs cap most w ha hl Y (dist0 Y lg) Y.sum ((2 : Int) ^ lg) Y.length (many Y) m0 lg o1 o2 (Lib.hid rfl) (Lib.hid hdl) (by omega) hml (by omega) l2 (by omega) (IntWalk.wrap64_in _ (by omega)) (Lib.hid hsp.2) (Lib.hid fun i => ⟨rng_getD0 o3 i, fun h => hnb i h⟩) (Lib.hid hmp.2) qC ?_ ?_ ?_ ?_
  · intro w
    have := modK most 7 (by omega) (by omega) w
    rwa [hm0] at this
  · intro w pa ca h
    exact of_x pa Y Y.length ca _ w rfl h (by omega) _ _ _ 0 l5 hdl.symm
  · intro w pa ca h
    have := log_p pa Y ca (6 + (m0 : Int)) w h (by omega)
    rwa [l1] at this
  · intro w pd cd h
    have := sum_s pd (dist0 Y lg) cd w h (by omega)
    rwa [hsm, hdl] at this
end Go.Proofs.Ytgponpjlkebjcaa
