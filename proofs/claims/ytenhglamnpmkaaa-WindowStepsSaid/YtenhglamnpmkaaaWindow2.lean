/-
  The reference's common length, and how far back candidates lie, walked.
-/
import Derived.Test.YtenhglamnpmkaaaRows
import Derived.Test.YtenhglamnpmkaaaWindow1
import Derived.WalkMore
import Derived.Test.YtenhglamnpmkaaaCommon
import Derived.Deep.Light
import Derived.Shelf.Abstract
import Derived.Shelf.RegionOpen
import Derived.OwnWalkIn
import Derived.TacticsInMore
import Derived.LoopNIn
import Derived.LoopIn
namespace Go.Proofs.Ytenhglamnpmkaaa
open Go.RowKit
set_option linter.unusedSimpArgs false
set_option linter.unusedVariables false
attribute [local go_sem] Oper.semAt_some

set_option maxHeartbeats 1000000 in
theorem rcommon_1 (s : ByteArray) (q p e : Nat) (w : World) (h1 : s.size ≤ 1048576) (hqp : q < p) (hpe : p ≤ e) (hes : e ≤ s.size) :
    Calls Try.prog 48 #[.string s, .int .i64 (q : Int), .int .i64 (p : Int), .int .i64 (e : Int)] w fun e' w' => e' = .returned (.tuple #[.int .i64 (cmn s (e - p) q p : Nat), .int .i64 0]) ∧ Below w.heap.size w w' := by
  have g1 : ¬ (q : Int) < 0 := by omega
  have g2 : ¬ (p : Int) ≤ (q : Int) := by omega
  have g3 : ¬ (e : Int) < (p : Int) := by omega
  have g4 : ¬ (s.size : Int) < (e : Int) := by omega
  have g5 : ¬ (1048576 : Int) < (s.size : Int) := by omega
  go_enter Try.func48, Try.ntmps48
  go_wp2
  go_loopw [10] (fun v wr => ∃ n : Nat, v = .int .i64 n ∧ p + n ≤ e ∧ Hid (∀ j, j < n → byt s (q + j) = byt s (p + j)) ∧ Below w.heap.size w wr) (fun v _ => e - p - (intOf v).toNat)
  case atStart => exact ⟨0, rfl, by omega, fun j hj => by omega, Below.refl _ _⟩
  case round =>
    obtain ⟨n, rfl, hn, HE, hb⟩ := hrel
    by_cases hlt : p + n < e
    · have hq : q + n < s.size := by omega
      have hp : p + n < s.size := by omega
      obtain ⟨c, hc⟩ : ∃ c : Nat, (s[q + n]'hq).toNat = c := ⟨_, rfl⟩
      obtain ⟨d, hd⟩ : ∃ d : Nat, (s[p + n]'hp).toNat = d := ⟨_, rfl⟩
      have HC := Lib.hid (byt_get hq hc)
      have HD := Lib.hid (byt_get hp hd)
      have i0 : (0 : Int) ≤ (q : Int) + (n : Int) := by omega
      have i1 : (q : Int) + (n : Int) < (s.size : Int) := by omega
      have i2 : (0 : Int) ≤ (p : Int) + (n : Int) := by omega
      have i3 : (p : Int) + (n : Int) < (s.size : Int) := by omega
      have i4 : decide ((p : Int) + (n : Int) < (e : Int)) = true := decide_eq_true (by omega)
      have t1 : ((q : Int) + (n : Int)).toNat = q + n := by omega
      have t2 : ((p : Int) + (n : Int)).toNat = p + n := by omega
      by_cases hcd : c = d
      · have e2 : ((c : Int) == (d : Int)) = true := by simp; omega
        go_wp2
        go_quiet (fail)
        go_wp2
        go_roundw
        case rel =>
          refine ⟨n + 1, by go_num, by omega, fun j hj => ?_, below_drewN hb _⟩
          by_cases hjn : j < n
          · exact HE.out j hjn
          · obtain rfl : j = n := by omega
            rw [HC.out, HD.out, hcd]
        case measure => go_light; simp [intOf] <;> omega
      · have e2 : ((c : Int) == (d : Int)) = false := by simp; omega
        have E1 := Lib.hid (cmn_eq s n (e - p) q p (by omega) HE.out (.inr (by rw [HC.out, HD.out]; exact hcd)))
        go_wp2
        go_quiet (fail)
        go_wp2
        go_ret2
        exact ⟨by rw [E1.out]; rfl, below_drewN hb _⟩
    · have E1 := Lib.hid (cmn_eq s n (e - p) q p (by omega) HE.out (.inl (by omega)))
      have i4 : decide ((p : Int) + (n : Int) < (e : Int)) = false := decide_eq_false (by omega)
      go_wp2
      go_quiet (fail)
      go_wp2
      go_ret2
      exact ⟨by rw [E1.out]; rfl, below_drewN hb _⟩
theorem rcommon_p (s : ByteArray) (q p e : Int) (w : World) (hl : s.size ≤ 9223372036854775807) :
    Calls Try.prog 48 #[.string s, .int .i64 q, .int .i64 p, .int .i64 e] w fun e' w' => e' = .returned (.tuple #[.int .i64 (wcom s q p e).1, .int .i64 (wcom s q p e).2]) ∧ Below w.heap.size w w' := by
  unfold wcom
  by_cases h0 : (1048576 : Int) < (s.size : Int)
  · rw [if_pos (by omega)]
    go_enter Try.func48, Try.ntmps48
    go_wp2
    repeat' (first | (go_region <;> go_wp2))
    all_goals go_light
    all_goals (refine bodyPost_ret (v := .tuple #[.int .i64 0, .int .i64 4]) (by simp [results, Try.results48, go_sem, *]) rfl ⟨rfl, ?_⟩; repeat' (first | exact Below.refl _ _ | refine Below.drew ?_ | refine below_drewN ?_ _ | refine Below.alloc ?_ (by first | omega | (simp <;> omega)) _ | refine Below.setCell ?_ (by first | omega | (simp <;> omega)) _ | refine Below.trans ?_ (Below.mono (by assumption) (by first | omega | (simp <;> omega)))))
  · rw [if_neg (by omega)]
    by_cases h1 : 0 ≤ q ∧ q < p ∧ p ≤ e ∧ e ≤ (s.size : Int)
    · rw [if_pos h1]
      obtain ⟨a1, a2, a3, a4⟩ := h1
      obtain ⟨q, rfl⟩ : ∃ n : Nat, q = (n : Int) := ⟨q.toNat, by omega⟩
      obtain ⟨p, rfl⟩ : ∃ n : Nat, p = (n : Int) := ⟨p.toNat, by omega⟩
      obtain ⟨e, rfl⟩ : ∃ n : Nat, e = (n : Int) := ⟨e.toNat, by omega⟩
      have t1 : ((e : Int) - (p : Int)).toNat = e - p := by omega
      simp only [t1, Int.toNat_natCast]
      exact rcommon_1 s q p e w (by omega) (by omega) (by omega) (by omega)
    · rw [if_neg h1]
      have h3 : q < 0 ∨ (¬ q < 0 ∧ p ≤ q) ∨ (¬ q < 0 ∧ ¬ p ≤ q ∧ e < p) ∨ (¬ q < 0 ∧ ¬ p ≤ q ∧ ¬ e < p ∧ (s.size : Int) < e) := by omega
      clear h1
      rcases h3 with a | ⟨a, b⟩ | ⟨a, b, c⟩ | ⟨a, b, c, d⟩
      all_goals
        go_enter Try.func48, Try.ntmps48
        go_wp2
        repeat' (first | (go_region <;> go_wp2))
        all_goals go_light
        all_goals (refine bodyPost_ret (v := .tuple #[.int .i64 0, .int .i64 2]) (by simp [results, Try.results48, go_sem, *]) rfl ⟨rfl, ?_⟩; repeat' (first | exact Below.refl _ _ | refine Below.drew ?_ | refine below_drewN ?_ _ | refine Below.alloc ?_ (by first | omega | (simp <;> omega)) _ | refine Below.setCell ?_ (by first | omega | (simp <;> omega)) _ | refine Below.trans ?_ (Below.mono (by assumption) (by first | omega | (simp <;> omega)))))

theorem pow_le {l : Int} (h : l ≤ 27) : 1 ≤ (2 : Int) ^ l.toNat ∧ (2 : Int) ^ l.toNat ≤ 134217728 := by
  have key : ∀ k : Fin 28, 1 ≤ (2 : Int) ^ k.1 ∧ (2 : Int) ^ k.1 ≤ 134217728 := by decide
  exact key ⟨l.toNat, by omega⟩
theorem reach_t (p l : Int) (w : World) (h1 : 10 ≤ l) (h2 : l ≤ 27) (h3 : 0 ≤ p) (h4 : p ≤ 1048576) : Calls Try.prog 63 #[.int .i64 p, .int .i64 l] w fun e' w' => e' = .returned (.int .i64 (min p ((2 : Int) ^ l.toNat))) ∧ Below w.heap.size w w' := by
  have hk := pow_le h2
  obtain ⟨P, hP⟩ : ∃ P, (2 : Int) ^ l.toNat = P := ⟨_, rfl⟩
  rw [hP] at hk ⊢
  obtain ⟨k1, k2⟩ := hk
  obtain ⟨M, hM⟩ : ∃ M, min p P = M := ⟨_, rfl⟩
  rw [hM]
  have HM := Lib.hid hM
  clear hM
  by_cases hc : p ≤ P
  · have e1 : p = M := by rw [← HM.out]; omega
    have E1 := Lib.hid e1
    clear e1
    go_enter Try.func63, Try.ntmps63
    go_wp2
    all_goals go_ret
    all_goals exact ⟨by first | (rw [← E1.out]; rfl) | (exfalso; omega), Below.refl _ _⟩
  · have e1 : P = M := by rw [← HM.out]; omega
    have E1 := Lib.hid e1
    clear e1
    go_enter Try.func63, Try.ntmps63
    go_wp2
    all_goals go_ret
    all_goals exact ⟨by first | (rw [← E1.out]; rfl) | (exfalso; omega), Below.refl _ _⟩
/-- What Reach returns. -/
def wrea (p l : Int) : Int × Int := if 0 ≤ p ∧ p ≤ 1048576 ∧ 10 ≤ l ∧ l ≤ 27 then (min p ((2 : Int) ^ l.toNat), 0) else (0, 2)

theorem wreach_p (p l : Int) (w : World) : Calls Try.prog 49 #[.int .i64 p, .int .i64 l] w fun e' w' => e' = .returned (.tuple #[.int .i64 (wrea p l).1, .int .i64 (wrea p l).2]) ∧ Below w.heap.size w w' := by
  unfold wrea
  by_cases h : 0 ≤ p ∧ p ≤ 1048576 ∧ 10 ≤ l ∧ l ≤ 27
  · rw [if_pos h]
    obtain ⟨h3, h4, h1, h2⟩ := h
    have a1 : ¬ p < 0 := by omega
    have a2 : ¬ 1048576 < p := by omega
    have a3 : ¬ l < 10 := by omega
    have a4 : ¬ 27 < l := by omega
    have a5 : decide (10 ≤ l ∧ l ≤ 27) = true := decide_eq_true ⟨h1, h2⟩
    obtain ⟨M, hM⟩ : ∃ M, min p ((2 : Int) ^ l.toNat) = M := ⟨_, rfl⟩
    have q1 := fun w => reach_t p l w h1 h2 h3 h4
    rw [hM] at q1 ⊢
    clear hM h1 h2 h3 h4
    go_enter Try.func49, Try.ntmps49
    go_wp2_with ((go_at_call 63; refine (q1 _).mono ?_; rintro e w1 ⟨rfl, hb⟩; have hsz := hb.size; (try simp at hsz)))
    repeat' (first | (go_region <;> go_wp2_with ((go_at_call 63; refine (q1 _).mono ?_; rintro e w1 ⟨rfl, hb⟩; have hsz := hb.size; (try simp at hsz)))))
    all_goals go_light
    all_goals (try simp only [beq_iff_eq, beq_eq_false_iff_ne, bne_iff_ne, bne_eq_false_iff_eq, ne_eq] at *)
    all_goals
      refine bodyPost_ret (v := .tuple #[.int .i64 M, .int .i64 0]) (by simp [results, Try.results49, go_sem, *]) rfl ⟨rfl, ?_⟩
      repeat' (first | exact Below.refl _ _ | refine Below.drew ?_ | refine below_drewN ?_ _ | refine Below.alloc ?_ (by first | omega | (simp <;> omega)) _ | refine Below.setCell ?_ (by first | omega | (simp <;> omega)) _ | refine Below.trans ?_ (Below.mono (by assumption) (by first | omega | (simp <;> omega))))
  · rw [if_neg h]
    have h3 : p < 0 ∨ (¬ p < 0 ∧ 1048576 < p) ∨ (¬ p < 0 ∧ ¬ 1048576 < p ∧ decide (10 ≤ l ∧ l ≤ 27) = false ∧ (l < 10 ∨ (¬ l < 10 ∧ 27 < l))) := by
      by_cases a1 : p < 0
      · exact .inl a1
      · by_cases a2 : 1048576 < p
        · exact .inr (.inl ⟨a1, a2⟩)
        · exact .inr (.inr ⟨a1, a2, decide_eq_false (by omega), by omega⟩)
    clear h
    rcases h3 with a | ⟨a, b⟩ | ⟨a, b, c, g | ⟨g, g2⟩⟩
    all_goals
      go_enter Try.func49, Try.ntmps49
      go_wp2
      repeat' (first | (go_region <;> go_wp2))
      all_goals go_light
      all_goals (try simp only [beq_iff_eq, beq_eq_false_iff_ne, bne_iff_ne, bne_eq_false_iff_eq, ne_eq] at *)
      all_goals
        refine bodyPost_ret (v := .tuple #[.int .i64 0, .int .i64 2]) (by simp [results, Try.results49, go_sem, *]) rfl ⟨rfl, ?_⟩
        repeat' (first | exact Below.refl _ _ | refine Below.drew ?_ | refine below_drewN ?_ _ | refine Below.alloc ?_ (by first | omega | (simp <;> omega)) _ | refine Below.setCell ?_ (by first | omega | (simp <;> omega)) _ | refine Below.trans ?_ (Below.mono (by assumption) (by first | omega | (simp <;> omega))))

theorem rreach_p (p l : Int) (w : World) : Calls Try.prog 50 #[.int .i64 p, .int .i64 l] w fun e' w' => e' = .returned (.tuple #[.int .i64 (wrea p l).1, .int .i64 (wrea p l).2]) ∧ Below w.heap.size w w' := by
  unfold wrea
  by_cases h : 0 ≤ p ∧ p ≤ 1048576 ∧ 10 ≤ l ∧ l ≤ 27
  · rw [if_pos h]
    obtain ⟨h3, h4, h1, h2⟩ := h
    have a1 : ¬ p < 0 := by omega
    have a2 : ¬ 1048576 < p := by omega
    have a3 : ¬ l < 10 := by omega
    have a4 : ¬ 27 < l := by omega
    have a5 : decide (10 ≤ l ∧ l ≤ 27) = true := decide_eq_true ⟨h1, h2⟩
    have hk := pow_le h2
    obtain ⟨P, hP⟩ : ∃ P, (2 : Int) ^ l.toNat = P := ⟨_, rfl⟩
    rw [hP] at hk ⊢
    obtain ⟨k1, k2⟩ := hk
    obtain ⟨M, hM⟩ : ∃ M, min p P = M := ⟨_, rfl⟩
    rw [hM]
    have HM := Lib.hid hM
    clear hM
    go_enter Try.func50, Try.ntmps50
    go_wp2_with ((go_at_call 62; refine (logs_p _ _).mono ?_; rintro e w1 ⟨rfl, hb⟩; have hsz := hb.size; (try simp at hsz)))
    all_goals go_ret2
    all_goals exact ⟨by first | (rw [show M = p by rw [← HM.out]; omega]; rfl) | (rw [show M = P by rw [← HM.out]; omega]; rfl), by repeat' (first | exact Below.refl _ _ | refine Below.drew ?_ | refine below_drewN ?_ _ | refine Below.alloc ?_ (by first | omega | (simp <;> omega)) _ | refine Below.setCell ?_ (by first | omega | (simp <;> omega)) _ | refine Below.trans ?_ (Below.mono (by assumption) (by first | omega | (simp <;> omega))))⟩
  · rw [if_neg h]
    have h3 : p < 0 ∨ (¬ p < 0 ∧ 1048576 < p) ∨ (¬ p < 0 ∧ ¬ 1048576 < p ∧ decide (10 ≤ l ∧ l ≤ 27) = false ∧ (l < 10 ∨ (¬ l < 10 ∧ 27 < l))) := by
      by_cases a1 : p < 0
      · exact .inl a1
      · by_cases a2 : 1048576 < p
        · exact .inr (.inl ⟨a1, a2⟩)
        · exact .inr (.inr ⟨a1, a2, decide_eq_false (by omega), by omega⟩)
    clear h
    rcases h3 with a | ⟨a, b⟩ | ⟨a, b, c, _⟩
    all_goals
      go_enter Try.func50, Try.ntmps50
      go_wp2_with ((go_at_call 62; refine (logs_p _ _).mono ?_; rintro e w1 ⟨rfl, hb⟩; have hsz := hb.size; (try simp at hsz)))
      repeat' (first | (go_region <;> go_wp2_with ((go_at_call 62; refine (logs_p _ _).mono ?_; rintro e w1 ⟨rfl, hb⟩; have hsz := hb.size; (try simp at hsz)))))
      all_goals go_light
      all_goals (try simp only [beq_iff_eq, beq_eq_false_iff_ne, bne_iff_ne, bne_eq_false_iff_eq, ne_eq] at *)
      all_goals
        refine bodyPost_ret (v := .tuple #[.int .i64 0, .int .i64 2]) (by simp [results, Try.results50, go_sem, *]) rfl ⟨rfl, ?_⟩
        repeat' (first | exact Below.refl _ _ | refine Below.drew ?_ | refine below_drewN ?_ _ | refine Below.alloc ?_ (by first | omega | (simp <;> omega)) _ | refine Below.setCell ?_ (by first | omega | (simp <;> omega)) _ | refine Below.trans ?_ (Below.mono (by assumption) (by first | omega | (simp <;> omega))))
end Go.Proofs.Ytenhglamnpmkaaa
