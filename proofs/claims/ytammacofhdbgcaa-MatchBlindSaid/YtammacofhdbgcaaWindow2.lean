/-
  The reference's common length, and how far back candidates lie, walked.
-/
import Derived.Test.YtammacofhdbgcaaRows
import Derived.Test.YtammacofhdbgcaaWindow1
import Derived.WalkMore
import Derived.Test.YtammacofhdbgcaaCommon
import Derived.Deep.Light
import Derived.Shelf.Abstract
import Derived.Shelf.RegionOpen
import Derived.OwnWalkIn
import Derived.TacticsInMore
import Derived.LoopNIn
import Derived.LoopIn
namespace Go.Proofs.Ytammacofhdbgcaa
open Go.RowKit
set_option linter.unusedSimpArgs false
set_option linter.unusedVariables false
attribute [local go_sem] Oper.semAt_some

set_option maxHeartbeats 1000000 in
theorem rcommon_1 (s : ByteArray) (q p e : Nat) (w : World) (h1 : s.size ≤ 1048576) (hqp : q < p) (hpe : p ≤ e) (hes : e ≤ s.size) :
    Calls Try.prog 58 #[.string s, .int .i64 (q : Int), .int .i64 (p : Int), .int .i64 (e : Int)] w fun e' w' => e' = .returned (.tuple #[.int .i64 (cmn s (e - p) q p : Nat), .int .i64 0]) ∧ Below w.heap.size w w' := by
  have g1 : ¬ (q : Int) < 0 := by omega
  have g2 : ¬ (p : Int) ≤ (q : Int) := by omega
  have g3 : ¬ (e : Int) < (p : Int) := by omega
  have g4 : ¬ (s.size : Int) < (e : Int) := by omega
  have g5 : ¬ (1048576 : Int) < (s.size : Int) := by omega
  go_enter Try.func58, Try.ntmps58
  go_wp2
  go_loopw [10] (fun v wr => ∃ n : Nat, v = .int .i64 n ∧ p + n ≤ e ∧ Hid (∀ j, j < n → byt s (q + j) = byt s (p + j)) ∧ Below w.heap.size w wr) (fun v _ => e - p - (intOf v).toNat)
  case atStart => exact ⟨0, rfl, by omega, fun j hj => by omega, Below.refl _ _⟩
  case round =>
    obtain ⟨n, rfl, hn, HE, hb⟩ := hrel
    by_cases hlt : p + n < e
    · have hq : q + n < s.size := by omega
      have hp : p + n < s.size := by omega
      obtain ⟨c, hc⟩ : ∃ c : Nat, (s[q + n]'hq).toNat = c := ⟨_, rfl⟩
      obtain ⟨d, hd⟩ : ∃ d : Nat, (s[p + n]'hp).toNat = d := ⟨_, rfl⟩
      have HC := Lib.hid (byt_get hq hc)
      have HD := Lib.hid (byt_get hp hd)
      have i0 : (0 : Int) ≤ (q : Int) + (n : Int) := by omega
      have i1 : (q : Int) + (n : Int) < (s.size : Int) := by omega
      have i2 : (0 : Int) ≤ (p : Int) + (n : Int) := by omega
      have i3 : (p : Int) + (n : Int) < (s.size : Int) := by omega
      have i4 : decide ((p : Int) + (n : Int) < (e : Int)) = true := decide_eq_true (by omega)
      have t1 : ((q : Int) + (n : Int)).toNat = q + n := by omega
      have t2 : ((p : Int) + (n : Int)).toNat = p + n := by omega
      by_cases hcd : c = d
      · have e2 : ((c : Int) == (d : Int)) = true := by simp; omega
        go_wp2
        go_quiet (fail)
        go_wp2
        go_roundw
        case rel =>
          refine ⟨n + 1, by go_num, by omega, fun j hj => ?_, below_drewN hb _⟩
          by_cases hjn : j < n
          · exact HE.out j hjn
          · obtain rfl : j = n := by omega
            rw [HC.out, HD.out, hcd]
        case measure => go_light; simp [intOf] <;> omega
      · have e2 : ((c : Int) == (d : Int)) = false := by simp; omega
        have E1 := Lib.hid (cmn_eq s n (e - p) q p (by omega) HE.out (.inr (by rw [HC.out, HD.out]; exact hcd)))
        go_wp2
        go_quiet (fail)
        go_wp2
        go_ret2
        exact ⟨by rw [E1.out]; rfl, below_drewN hb _⟩
    · have E1 := Lib.hid (cmn_eq s n (e - p) q p (by omega) HE.out (.inl (by omega)))
      have i4 : decide ((p : Int) + (n : Int) < (e : Int)) = false := decide_eq_false (by omega)
      go_wp2
      go_quiet (fail)
      go_wp2
      go_ret2
      exact ⟨by rw [E1.out]; rfl, below_drewN hb _⟩
theorem rcommon_p (s : ByteArray) (q p e : Int) (w : World) (hl : s.size ≤ 9223372036854775807) :
    Calls Try.prog 58 #[.string s, .int .i64 q, .int .i64 p, .int .i64 e] w fun e' w' => e' = .returned (.tuple #[.int .i64 (wcom s q p e).1, .int .i64 (wcom s q p e).2]) ∧ Below w.heap.size w w' := by
  unfold wcom
  by_cases h0 : (1048576 : Int) < (s.size : Int)
  · rw [if_pos (by omega)]
    go_enter Try.func58, Try.ntmps58
    go_wp2
    repeat' (first | (go_region <;> go_wp2))
    all_goals go_light
    all_goals (refine bodyPost_ret (v := .tuple #[.int .i64 0, .int .i64 4]) (by simp [results, Try.results58, go_sem, *]) rfl ⟨rfl, ?_⟩; repeat' (first | exact Below.refl _ _ | refine Below.drew ?_ | refine below_drewN ?_ _ | refine Below.alloc ?_ (by first | omega | (simp <;> omega)) _ | refine Below.setCell ?_ (by first | omega | (simp <;> omega)) _ | refine Below.trans ?_ (Below.mono (by assumption) (by first | omega | (simp <;> omega)))))
  · rw [if_neg (by omega)]
    by_cases h1 : 0 ≤ q ∧ q < p ∧ p ≤ e ∧ e ≤ (s.size : Int)
    · rw [if_pos h1]
      obtain ⟨a1, a2, a3, a4⟩ := h1
      obtain ⟨q, rfl⟩ : ∃ n : Nat, q = (n : Int) := ⟨q.toNat, by omega⟩
      obtain ⟨p, rfl⟩ : ∃ n : Nat, p = (n : Int) := ⟨p.toNat, by omega⟩
      obtain ⟨e, rfl⟩ : ∃ n : Nat, e = (n : Int) := ⟨e.toNat, by omega⟩
      have t1 : ((e : Int) - (p : Int)).toNat = e - p := by omega
      simp only [t1, Int.toNat_natCast]
      exact rcommon_1 s q p e w (by omega) (by omega) (by omega) (by omega)
    · rw [if_neg h1]
      have h3 : q < 0 ∨ (¬ q < 0 ∧ p ≤ q) ∨ (¬ q < 0 ∧ ¬ p ≤ q ∧ e < p) ∨ (¬ q < 0 ∧ ¬ p ≤ q ∧ ¬ e < p ∧ (s.size : Int) < e) := by omega
      clear h1
      rcases h3 with a | ⟨a, b⟩ | ⟨a, b, c⟩ | ⟨a, b, c, d⟩
      all_goals
        go_enter Try.func58, Try.ntmps58
        go_wp2
        repeat' (first | (go_region <;> go_wp2))
        all_goals go_light
        all_goals (refine bodyPost_ret (v := .tuple #[.int .i64 0, .int .i64 2]) (by simp [results, Try.results58, go_sem, *]) rfl ⟨rfl, ?_⟩; repeat' (first | exact Below.refl _ _ | refine Below.drew ?_ | refine below_drewN ?_ _ | refine Below.alloc ?_ (by first | omega | (simp <;> omega)) _ | refine Below.setCell ?_ (by first | omega | (simp <;> omega)) _ | refine Below.trans ?_ (Below.mono (by assumption) (by first | omega | (simp <;> omega)))))

theorem pow_le {l : Int} (h : l ≤ 27) : 1 ≤ (2 : Int) ^ l.toNat ∧ (2 : Int) ^ l.toNat ≤ 134217728 := by
  have key : ∀ k : Fin 28, 1 ≤ (2 : Int) ^ k.1 ∧ (2 : Int) ^ k.1 ≤ 134217728 := by decide
  exact key ⟨l.toNat, by omega⟩
theorem reach_t (p l : Int) (w : World) (h1 : 10 ≤ l) (h2 : l ≤ 27) (h3 : 0 ≤ p) (h4 : p ≤ 1048576) : Calls Try.prog 104 #[.int .i64 p, .int .i64 l] w fun e' w' => e' = .returned (.int .i64 (min p ((2 : Int) ^ l.toNat))) ∧ Below w.heap.size w w' := by
  have hk := pow_le h2
  obtain ⟨P, hP⟩ : ∃ P, (2 : Int) ^ l.toNat = P := ⟨_, rfl⟩
  rw [hP] at hk ⊢
  obtain ⟨k1, k2⟩ := hk
  obtain ⟨M, hM⟩ : ∃ M, min p P = M := ⟨_, rfl⟩
  rw [hM]
  have HM := Lib.hid hM
  clear hM
  by_cases hc : p ≤ P
  · have e1 : p = M := by rw [← HM.out]; omega
    have E1 := Lib.hid e1
    clear e1
    go_enter Try.func104, Try.ntmps104
    go_wp2
    all_goals go_ret
    all_goals exact ⟨by first | (rw [← E1.out]; rfl) | (exfalso; omega), Below.refl _ _⟩
  · have e1 : P = M := by rw [← HM.out]; omega
    have E1 := Lib.hid e1
    clear e1
    go_enter Try.func104, Try.ntmps104
    go_wp2
    all_goals go_ret
    all_goals exact ⟨by first | (rw [← E1.out]; rfl) | (exfalso; omega), Below.refl _ _⟩
/-- What Reach returns. -/
def wrea (p l : Int) : Int × Int := if 0 ≤ p ∧ p ≤ 1048576 ∧ 10 ≤ l ∧ l ≤ 27 then (min p ((2 : Int) ^ l.toNat), 0) else (0, 2)

end Go.Proofs.Ytammacofhdbgcaa
