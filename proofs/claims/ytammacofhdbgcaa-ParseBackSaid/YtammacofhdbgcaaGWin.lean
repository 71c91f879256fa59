/-
  Windows: checks, common lengths, candidates, walked.
-/
import Derived.Test.YtammacofhdbgcaaRows
import Derived.Test.YtammacofhdbgcaaGBase
import Derived.WalkMore
import Derived.Deep.Light
import Derived.Shelf.Abstract
import Derived.Shelf.RegionOpen
import Derived.OwnWalkIn
import Derived.TacticsInMore
import Derived.LoopNIn
import Derived.LoopIn
import Derived.Lib.LazyBuf
import Derived.WideKeyArr
import Derived.WideKeyEntry
import Derived.Maps.Keyed
import Derived.Maps.AppendAt
import Derived.Maps.OwnOps
import Derived.Outline
import Derived.Maps.OwnIn
namespace Go.Proofs.Ytammacofhdbgcaa
open Go.RowKit
set_option linter.unusedSimpArgs false
set_option linter.unusedVariables false
attribute [local go_sem] Oper.semAt_some

/-- The check of a view. -/
def wOk (n : Nat) (p e l : Int) : Prop := 0 ≤ p ∧ p ≤ e ∧ e ≤ n ∧ 10 ≤ l ∧ l ≤ 27
instance (n : Nat) (p e l : Int) : Decidable (wOk n p e l) := by unfold wOk; infer_instance
def wchk (n : Nat) (p e l : Int) : Int := if 1048576 < n then 4 else if wOk n p e l then 0 else 2
theorem wchk_4 {n : Nat} {p e l : Int} (h : (1048576 : Int) < (n : Int)) : wchk n p e l = 4 := by unfold wchk; rw [if_pos (by omega)]
theorem wchk_2 {n : Nat} {p e l : Int} (h : ¬ (1048576 : Int) < (n : Int)) (h2 : ¬ wOk n p e l) : wchk n p e l = 2 := by unfold wchk; rw [if_neg (by omega), if_neg h2]
theorem wchk_0 {n : Nat} {p e l : Int} (h : ¬ (1048576 : Int) < (n : Int)) (h2 : wOk n p e l) : wchk n p e l = 0 := by unfold wchk; rw [if_neg (by omega), if_pos h2]
theorem wchk_ok {n : Nat} {p e l : Int} (h : wchk n p e l = 0) : n ≤ 1048576 ∧ wOk n p e l := by
  unfold wchk at h
  split at h
  · simp at h
  · split at h
    · exact ⟨by omega, by assumption⟩
    · simp at h

set_option maxHeartbeats 1000000 in
theorem wcheck_p (s : ByteArray) (p e l : Int) (w : World) (hl : s.size ≤ 9223372036854775807) :
    Calls Try.prog 51 #[.string s, .int .i64 p, .int .i64 e, .int .i64 l] w fun e' w' => e' = .returned (.int .i64 (wchk s.size p e l)) ∧ Below w.heap.size w w' := by
  by_cases h0 : (1048576 : Int) < (s.size : Int)
  · rw [wchk_4 h0]
    go_enter Try.func51, Try.ntmps51
    go_wp2
    repeat' (first | (go_region <;> go_wp2))
    all_goals go_light
    all_goals (try simp only [beq_iff_eq, beq_eq_false_iff_ne, bne_iff_ne, bne_eq_false_iff_eq, ne_eq] at *)
    all_goals
      refine bodyPost_ret (v := .int .i64 4) (by simp [results, Try.results51, go_sem, *]) rfl ⟨rfl, ?_⟩
      repeat' (first | exact Below.refl _ _ | refine Below.drew ?_ | refine below_drewN ?_ _ | refine Below.alloc ?_ (by first | omega | (simp <;> omega)) _ | refine Below.setCell ?_ (by first | omega | (simp <;> omega)) _ | refine Below.trans ?_ (Below.mono (by assumption) (by first | omega | (simp <;> omega))))
  · by_cases h1 : wOk s.size p e l
    · rw [wchk_0 h0 h1]
      obtain ⟨k1, k2, k3, k4, k5⟩ := h1
      have j1 : ¬ p < 0 := by omega
      have j2 : ¬ e < p := by omega
      have j3 : ¬ (s.size : Int) < e := by omega
      have j4 : ¬ l < 10 := by omega
      have j5 : ¬ 27 < l := by omega
      have j6 : decide (10 ≤ l ∧ l ≤ 27) = true := decide_eq_true ⟨k4, k5⟩
      clear k1 k2 k3 k4 k5
      go_enter Try.func51, Try.ntmps51
      go_wp2
      repeat' (first | (go_region <;> go_wp2))
      all_goals go_light
      all_goals (try simp only [beq_iff_eq, beq_eq_false_iff_ne, bne_iff_ne, bne_eq_false_iff_eq, ne_eq] at *)
      all_goals
        refine bodyPost_ret (v := .int .i64 0) (by simp [results, Try.results51, go_sem, *]) rfl ⟨rfl, ?_⟩
        repeat' (first | exact Below.refl _ _ | refine Below.drew ?_ | refine below_drewN ?_ _ | refine Below.alloc ?_ (by first | omega | (simp <;> omega)) _ | refine Below.setCell ?_ (by first | omega | (simp <;> omega)) _ | refine Below.trans ?_ (Below.mono (by assumption) (by first | omega | (simp <;> omega))))
    · rw [wchk_2 h0 h1]
      have h2 : p < 0 ∨ (¬ p < 0 ∧ e < p) ∨ (¬ p < 0 ∧ ¬ e < p ∧ (s.size : Int) < e) ∨ (¬ p < 0 ∧ ¬ e < p ∧ ¬ (s.size : Int) < e ∧ decide (10 ≤ l ∧ l ≤ 27) = false ∧ (l < 10 ∨ (¬ l < 10 ∧ 27 < l))) := by
        unfold wOk at h1
        by_cases a1 : p < 0
        · exact .inl a1
        · by_cases a2 : e < p
          · exact .inr (.inl ⟨a1, a2⟩)
          · by_cases a3 : (s.size : Int) < e
            · exact .inr (.inr (.inl ⟨a1, a2, a3⟩))
            · exact .inr (.inr (.inr ⟨a1, a2, a3, decide_eq_false (by omega), by omega⟩))
      clear h1
      rcases h2 with a | ⟨a, b⟩ | ⟨a, b, c⟩ | ⟨a, b, c, d, g | ⟨g, g2⟩⟩
      all_goals
        go_enter Try.func51, Try.ntmps51
        go_wp2
        repeat' (first | (go_region <;> go_wp2))
        all_goals go_light
        all_goals (try simp only [beq_iff_eq, beq_eq_false_iff_ne, bne_iff_ne, bne_eq_false_iff_eq, ne_eq] at *)
        all_goals
          refine bodyPost_ret (v := .int .i64 2) (by simp [results, Try.results51, go_sem, *]) rfl ⟨rfl, ?_⟩
          repeat' (first | exact Below.refl _ _ | refine Below.drew ?_ | refine below_drewN ?_ _ | refine Below.alloc ?_ (by first | omega | (simp <;> omega)) _ | refine Below.setCell ?_ (by first | omega | (simp <;> omega)) _ | refine Below.trans ?_ (Below.mono (by assumption) (by first | omega | (simp <;> omega))))

theorem logs_p (l : Int) (w : World) : Calls Try.prog 85 #[.int .i64 l] w fun e w' => e = .returned (.bool (decide (10 ≤ l ∧ l ≤ 27))) ∧ Below w.heap.size w w' := by
  by_cases h1 : 10 ≤ l
  · by_cases h2 : l ≤ 27
    · rw [decide_eq_true ⟨h1, h2⟩]
      go_enter Try.func85, Try.ntmps85
      go_wp2
      repeat' (first | (go_region <;> go_wp2))
      all_goals go_light
      all_goals (try simp only [beq_iff_eq, beq_eq_false_iff_ne, bne_iff_ne, bne_eq_false_iff_eq, ne_eq] at *)
      all_goals
        refine bodyPost_ret (v := .bool true) (by simp [results, Try.results85, go_sem, *]) rfl ⟨rfl, ?_⟩
        repeat' (first | exact Below.refl _ _ | refine Below.drew ?_ | refine below_drewN ?_ _ | refine Below.alloc ?_ (by first | omega | (simp <;> omega)) _ | refine Below.setCell ?_ (by first | omega | (simp <;> omega)) _ | refine Below.trans ?_ (Below.mono (by assumption) (by first | omega | (simp <;> omega))))
    · rw [decide_eq_false (by omega)]
      go_enter Try.func85, Try.ntmps85
      go_wp2
      repeat' (first | (go_region <;> go_wp2))
      all_goals go_light
      all_goals (try simp only [beq_iff_eq, beq_eq_false_iff_ne, bne_iff_ne, bne_eq_false_iff_eq, ne_eq] at *)
      all_goals
        refine bodyPost_ret (v := .bool false) (by simp [results, Try.results85, go_sem, *]) rfl ⟨rfl, ?_⟩
        repeat' (first | exact Below.refl _ _ | refine Below.drew ?_ | refine below_drewN ?_ _ | refine Below.alloc ?_ (by first | omega | (simp <;> omega)) _ | refine Below.setCell ?_ (by first | omega | (simp <;> omega)) _ | refine Below.trans ?_ (Below.mono (by assumption) (by first | omega | (simp <;> omega))))
  · rw [decide_eq_false (by omega)]
    go_enter Try.func85, Try.ntmps85
    go_wp2
    repeat' (first | (go_region <;> go_wp2))
    all_goals go_light
    all_goals (try simp only [beq_iff_eq, beq_eq_false_iff_ne, bne_iff_ne, bne_eq_false_iff_eq, ne_eq] at *)
    all_goals
      refine bodyPost_ret (v := .bool false) (by simp [results, Try.results85, go_sem, *]) rfl ⟨rfl, ?_⟩
      repeat' (first | exact Below.refl _ _ | refine Below.drew ?_ | refine below_drewN ?_ _ | refine Below.alloc ?_ (by first | omega | (simp <;> omega)) _ | refine Below.setCell ?_ (by first | omega | (simp <;> omega)) _ | refine Below.trans ?_ (Below.mono (by assumption) (by first | omega | (simp <;> omega))))

set_option maxHeartbeats 1000000 in
theorem rwcheck_p (s : ByteArray) (p e l : Int) (w : World) (hl : s.size ≤ 9223372036854775807) :
    Calls Try.prog 55 #[.string s, .int .i64 p, .int .i64 e, .int .i64 l] w fun e' w' => e' = .returned (.int .i64 (wchk s.size p e l)) ∧ Below w.heap.size w w' := by
  by_cases h0 : (1048576 : Int) < (s.size : Int)
  · rw [wchk_4 h0]
    go_enter Try.func55, Try.ntmps55
    go_wp2_with ((go_at_call 85; refine (logs_p _ _).mono ?_; rintro e w1 ⟨rfl, hb⟩; have hsz := hb.size; (try simp at hsz)))
    repeat' (first | (go_region <;> go_wp2_with ((go_at_call 85; refine (logs_p _ _).mono ?_; rintro e w1 ⟨rfl, hb⟩; have hsz := hb.size; (try simp at hsz)))))
    all_goals go_light
    all_goals (try simp only [beq_iff_eq, beq_eq_false_iff_ne, bne_iff_ne, bne_eq_false_iff_eq, ne_eq] at *)
    all_goals
      refine bodyPost_ret (v := .int .i64 4) (by simp [results, Try.results55, go_sem, *]) rfl ⟨rfl, ?_⟩
      repeat' (first | exact Below.refl _ _ | refine Below.drew ?_ | refine below_drewN ?_ _ | refine Below.alloc ?_ (by first | omega | (simp <;> omega)) _ | refine Below.setCell ?_ (by first | omega | (simp <;> omega)) _ | refine Below.trans ?_ (Below.mono (by assumption) (by first | omega | (simp <;> omega))))
  · by_cases h1 : wOk s.size p e l
    · rw [wchk_0 h0 h1]
      obtain ⟨k1, k2, k3, k4, k5⟩ := h1
      have j1 : ¬ p < 0 := by omega
      have j2 : ¬ e < p := by omega
      have j3 : ¬ (s.size : Int) < e := by omega
      have j4 : ¬ l < 10 := by omega
      have j5 : ¬ 27 < l := by omega
      have j6 : decide (10 ≤ l ∧ l ≤ 27) = true := decide_eq_true ⟨k4, k5⟩
      clear k1 k2 k3 k4 k5
      go_enter Try.func55, Try.ntmps55
      go_wp2_with ((go_at_call 85; refine (logs_p _ _).mono ?_; rintro e w1 ⟨rfl, hb⟩; have hsz := hb.size; (try simp at hsz)))
      repeat' (first | (go_region <;> go_wp2_with ((go_at_call 85; refine (logs_p _ _).mono ?_; rintro e w1 ⟨rfl, hb⟩; have hsz := hb.size; (try simp at hsz)))))
      all_goals go_light
      all_goals (try simp only [beq_iff_eq, beq_eq_false_iff_ne, bne_iff_ne, bne_eq_false_iff_eq, ne_eq] at *)
      all_goals
        refine bodyPost_ret (v := .int .i64 0) (by simp [results, Try.results55, go_sem, *]) rfl ⟨rfl, ?_⟩
        repeat' (first | exact Below.refl _ _ | refine Below.drew ?_ | refine below_drewN ?_ _ | refine Below.alloc ?_ (by first | omega | (simp <;> omega)) _ | refine Below.setCell ?_ (by first | omega | (simp <;> omega)) _ | refine Below.trans ?_ (Below.mono (by assumption) (by first | omega | (simp <;> omega))))
    · rw [wchk_2 h0 h1]
      have h2 : p < 0 ∨ (¬ p < 0 ∧ e < p) ∨ (¬ p < 0 ∧ ¬ e < p ∧ (s.size : Int) < e) ∨ (¬ p < 0 ∧ ¬ e < p ∧ ¬ (s.size : Int) < e ∧ decide (10 ≤ l ∧ l ≤ 27) = false ∧ (l < 10 ∨ (¬ l < 10 ∧ 27 < l))) := by
        unfold wOk at h1
        by_cases a1 : p < 0
        · exact .inl a1
        · by_cases a2 : e < p
          · exact .inr (.inl ⟨a1, a2⟩)
          · by_cases a3 : (s.size : Int) < e
            · exact .inr (.inr (.inl ⟨a1, a2, a3⟩))
            · exact .inr (.inr (.inr ⟨a1, a2, a3, decide_eq_false (by omega), by omega⟩))
      clear h1
      rcases h2 with a | ⟨a, b⟩ | ⟨a, b, c⟩ | ⟨a, b, c, d, _⟩
      all_goals
        go_enter Try.func55, Try.ntmps55
        go_wp2_with ((go_at_call 85; refine (logs_p _ _).mono ?_; rintro e w1 ⟨rfl, hb⟩; have hsz := hb.size; (try simp at hsz)))
        repeat' (first | (go_region <;> go_wp2_with ((go_at_call 85; refine (logs_p _ _).mono ?_; rintro e w1 ⟨rfl, hb⟩; have hsz := hb.size; (try simp at hsz)))))
        all_goals go_light
        all_goals (try simp only [beq_iff_eq, beq_eq_false_iff_ne, bne_iff_ne, bne_eq_false_iff_eq, ne_eq] at *)
        all_goals
          refine bodyPost_ret (v := .int .i64 2) (by simp [results, Try.results55, go_sem, *]) rfl ⟨rfl, ?_⟩
          repeat' (first | exact Below.refl _ _ | refine Below.drew ?_ | refine below_drewN ?_ _ | refine Below.alloc ?_ (by first | omega | (simp <;> omega)) _ | refine Below.setCell ?_ (by first | omega | (simp <;> omega)) _ | refine Below.trans ?_ (Below.mono (by assumption) (by first | omega | (simp <;> omega))))

/-! The common length of two places -/
def byt (s : ByteArray) (i : Nat) : Nat := if h : i < s.size then (s[i]'h).toNat else 0
theorem byt_get {s : ByteArray} {i c : Nat} (h : i < s.size) (hc : (s[i]'h).toNat = c) : byt s i = c := by unfold byt; rw [dif_pos h, hc]
def cmn (s : ByteArray) : Nat → Nat → Nat → Nat
  | 0, _, _ => 0
  | f + 1, q, p => if byt s q = byt s p then 1 + cmn s f (q + 1) (p + 1) else 0
theorem cmn_eq (s : ByteArray) : ∀ (n f q p : Nat), n ≤ f → (∀ j, j < n → byt s (q + j) = byt s (p + j)) → (n = f ∨ byt s (q + n) ≠ byt s (p + n)) → cmn s f q p = n := by
  intro n
  induction n with
  | zero =>
    intro f q p _ _ h
    cases f with
    | zero => rfl
    | succ f =>
      rcases h with h | h
      · omega
      · simp only [Nat.add_zero] at h
        simp [cmn, h]
  | succ n ih =>
    intro f q p hf hj h
    cases f with
    | zero => omega
    | succ f =>
      have h0 := hj 0 (by omega)
      simp only [Nat.add_zero] at h0
      simp only [cmn, h0, if_true]
      rw [ih f (q + 1) (p + 1) (by omega) (fun j hjn => by
        have := hj (j + 1) (by omega)
        rw [show q + 1 + j = q + (j + 1) by omega, show p + 1 + j = p + (j + 1) by omega]
        exact this) (by
        rcases h with h | h
        · left; omega
        · right
          rw [show q + 1 + n = q + (n + 1) by omega, show p + 1 + n = p + (n + 1) by omega]
          exact h)]
      omega
/-- What Common returns. -/
def wcom (s : ByteArray) (q p e : Int) : Int × Int := if 1048576 < s.size then (0, 4) else if 0 ≤ q ∧ q < p ∧ p ≤ e ∧ e ≤ (s.size : Int) then (((cmn s (e - p).toNat q.toNat p.toNat : Nat) : Int), 0) else (0, 2)

set_option maxHeartbeats 1000000 in
theorem wcommon_1 (s : ByteArray) (q p e : Nat) (w : World) (hl : s.size ≤ 9223372036854775807) (hc : wchk s.size p e 10 = 0) (hqp : q < p) :
    Calls Try.prog 65 #[.string s, .int .i64 (q : Int), .int .i64 (p : Int), .int .i64 (e : Int)] w fun e' w' => e' = .returned (.tuple #[.int .i64 (cmn s (e - p) q p : Nat), .int .i64 0]) ∧ Below w.heap.size w w' := by
  obtain ⟨h1, h2, h3, h4, _⟩ := wchk_ok hc
  have g1 : ¬ (q : Int) < 0 := by omega
  have g2 : ¬ (p : Int) ≤ (q : Int) := by omega
  have g3 : (e : Int) ≤ (s.size : Int) := h4
  have g4 : (s.size : Int) ≤ 1048576 := by omega
  clear h1 h2
  go_enter Try.func65, Try.ntmps65
  go_wp2
  go_step3
  go_wp2_with ((go_at_call 51; refine (wcheck_p _ _ _ _ _ hl).mono ?_; rintro e w1 ⟨rfl, hb⟩; have hsz := hb.size; (try simp at hsz)))
  (try (go_step3; go_wp2))
  go_loopw [11] (fun v wr => ∃ n : Nat, v = .int .i64 n ∧ p + n ≤ e ∧ Hid (∀ j, j < n → byt s (q + j) = byt s (p + j)) ∧ Below w.heap.size w wr) (fun v _ => e - p - (intOf v).toNat)
  case atStart => exact ⟨0, rfl, by omega, fun j hj => by omega, hb⟩
  case round =>
    clear hb hsz hc
    obtain ⟨n, rfl, hn, HE, hb⟩ := hrel
    by_cases hlt : p + n < e
    · have hq : q + n < s.size := by omega
      have hp : p + n < s.size := by omega
      obtain ⟨c, hc⟩ : ∃ c : Nat, (s[q + n]'hq).toNat = c := ⟨_, rfl⟩
      obtain ⟨d, hd⟩ : ∃ d : Nat, (s[p + n]'hp).toNat = d := ⟨_, rfl⟩
      have HC := Lib.hid (byt_get hq hc)
      have HD := Lib.hid (byt_get hp hd)
      have i0 : (0 : Int) ≤ (q : Int) + (n : Int) := by omega
      have i1 : (q : Int) + (n : Int) < (s.size : Int) := by omega
      have i2 : (0 : Int) ≤ (p : Int) + (n : Int) := by omega
      have i3 : (p : Int) + (n : Int) < (s.size : Int) := by omega
      have i4 : (p : Int) + (n : Int) < (e : Int) := by omega
      have t1 : ((q : Int) + (n : Int)).toNat = q + n := by omega
      have t2 : ((p : Int) + (n : Int)).toNat = p + n := by omega
      by_cases hcd : c = d
      · have e2 : ((c : Int) != (d : Int)) = false := by simp; omega
        go_wp2
        go_quiet (fail)
        go_wp2
        go_roundw
        case rel =>
          refine ⟨n + 1, by go_num, by omega, fun j hj => ?_, below_drewN hb _⟩
          by_cases hjn : j < n
          · exact HE.out j hjn
          · obtain rfl : j = n := by omega
            rw [HC.out, HD.out, hcd]
        case measure => go_light; simp [intOf] <;> omega
      · have e2 : ((c : Int) != (d : Int)) = true := by simp; omega
        have E1 := Lib.hid (cmn_eq s n (e - p) q p (by omega) HE.out (.inr (by rw [HC.out, HD.out]; exact hcd)))
        go_wp2
        go_quiet (fail)
        go_wp2
        (try rw [Exit.noGoto_ret])
        go_ret2
        exact ⟨by rw [E1.out]; rfl, below_drewN hb _⟩
    · have E1 := Lib.hid (cmn_eq s n (e - p) q p (by omega) HE.out (.inl (by omega)))
      have i4 : ¬ (p : Int) + (n : Int) < (e : Int) := by omega
      go_wp2
      (try rw [Exit.noGoto_ret])
      go_ret2
      exact ⟨by rw [E1.out]; rfl, hb⟩

theorem wcommon_p (s : ByteArray) (q p e : Int) (w : World) (hl : s.size ≤ 9223372036854775807) :
    Calls Try.prog 65 #[.string s, .int .i64 q, .int .i64 p, .int .i64 e] w fun e' w' => e' = .returned (.tuple #[.int .i64 (wcom s q p e).1, .int .i64 (wcom s q p e).2]) ∧ Below w.heap.size w w' := by
  unfold wcom
  by_cases h0 : (1048576 : Int) < (s.size : Int)
  · rw [if_pos (by omega)]
    have q1 := fun w => wcheck_p s p e 10 w hl
    rw [wchk_4 h0] at q1
    go_enter Try.func65, Try.ntmps65
    go_wp2
    go_step3
    go_wp2_with ((go_at_call 51; refine (q1 _).mono ?_; rintro e w1 ⟨rfl, hb⟩; have hsz := hb.size; (try simp at hsz)))
    repeat' (first | (go_region <;> go_wp2_with ((go_at_call 51; refine (q1 _).mono ?_; rintro e w1 ⟨rfl, hb⟩; have hsz := hb.size; (try simp at hsz)))))
    all_goals go_light
    all_goals (try rw [Exit.noGoto_ret])
    all_goals (refine bodyPost_ret (v := .tuple #[.int .i64 0, .int .i64 4]) (by simp [results, Try.results65, go_sem, *]) rfl ⟨rfl, ?_⟩; repeat' (first | exact Below.refl _ _ | refine Below.drew ?_ | refine below_drewN ?_ _ | refine Below.alloc ?_ (by first | omega | (simp <;> omega)) _ | refine Below.setCell ?_ (by first | omega | (simp <;> omega)) _ | refine Below.trans ?_ (Below.mono (by assumption) (by first | omega | (simp <;> omega)))))
  · rw [if_neg (by omega)]
    by_cases h1 : 0 ≤ q ∧ q < p ∧ p ≤ e ∧ e ≤ (s.size : Int)
    · rw [if_pos h1]
      obtain ⟨a1, a2, a3, a4⟩ := h1
      obtain ⟨q, rfl⟩ : ∃ n : Nat, q = (n : Int) := ⟨q.toNat, by omega⟩
      obtain ⟨p, rfl⟩ : ∃ n : Nat, p = (n : Int) := ⟨p.toNat, by omega⟩
      obtain ⟨e, rfl⟩ : ∃ n : Nat, e = (n : Int) := ⟨e.toNat, by omega⟩
      have t1 : ((e : Int) - (p : Int)).toNat = e - p := by omega
      simp only [t1, Int.toNat_natCast]
      exact wcommon_1 s q p e w hl (wchk_0 h0 ⟨by omega, by omega, by omega, by omega, by omega⟩) (by omega)
    · rw [if_neg h1]
      by_cases h2 : wOk s.size p e 10
      · have q1 := fun w => wcheck_p s p e 10 w hl
        rw [wchk_0 h0 h2] at q1
        have h3 : q < 0 ∨ (¬ q < 0 ∧ p ≤ q) := by unfold wOk at h2; omega
        clear h1 h2
        rcases h3 with a | ⟨a, b⟩
        all_goals
          go_enter Try.func65, Try.ntmps65
          go_wp2
          go_step3
          go_wp2_with ((go_at_call 51; refine (q1 _).mono ?_; rintro e w1 ⟨rfl, hb⟩; have hsz := hb.size; (try simp at hsz)))
          repeat' (first | (go_region <;> go_wp2_with ((go_at_call 51; refine (q1 _).mono ?_; rintro e w1 ⟨rfl, hb⟩; have hsz := hb.size; (try simp at hsz)))))
          all_goals go_light
          all_goals (try rw [Exit.noGoto_ret])
          all_goals (refine bodyPost_ret (v := .tuple #[.int .i64 0, .int .i64 2]) (by simp [results, Try.results65, go_sem, *]) rfl ⟨rfl, ?_⟩; repeat' (first | exact Below.refl _ _ | refine Below.drew ?_ | refine below_drewN ?_ _ | refine Below.alloc ?_ (by first | omega | (simp <;> omega)) _ | refine Below.setCell ?_ (by first | omega | (simp <;> omega)) _ | refine Below.trans ?_ (Below.mono (by assumption) (by first | omega | (simp <;> omega)))))
      · have q1 := fun w => wcheck_p s p e 10 w hl
        rw [wchk_2 h0 h2] at q1
        clear h1 h2
        go_enter Try.func65, Try.ntmps65
        go_wp2
        go_step3
        go_wp2_with ((go_at_call 51; refine (q1 _).mono ?_; rintro e w1 ⟨rfl, hb⟩; have hsz := hb.size; (try simp at hsz)))
        repeat' (first | (go_region <;> go_wp2_with ((go_at_call 51; refine (q1 _).mono ?_; rintro e w1 ⟨rfl, hb⟩; have hsz := hb.size; (try simp at hsz)))))
        all_goals go_light
        all_goals (try rw [Exit.noGoto_ret])
        all_goals (refine bodyPost_ret (v := .tuple #[.int .i64 0, .int .i64 2]) (by simp [results, Try.results65, go_sem, *]) rfl ⟨rfl, ?_⟩; repeat' (first | exact Below.refl _ _ | refine Below.drew ?_ | refine below_drewN ?_ _ | refine Below.alloc ?_ (by first | omega | (simp <;> omega)) _ | refine Below.setCell ?_ (by first | omega | (simp <;> omega)) _ | refine Below.trans ?_ (Below.mono (by assumption) (by first | omega | (simp <;> omega)))))
end Go.Proofs.Ytammacofhdbgcaa
namespace Go.Proofs.Ytammacofhdbgcaa
open Go.RowKit
set_option linter.unusedSimpArgs false
set_option linter.unusedVariables false
attribute [local go_sem] Oper.semAt_some

set_option maxHeartbeats 1000000 in
theorem rcommon_1 (s : ByteArray) (q p e : Nat) (w : World) (h1 : s.size ≤ 1048576) (hqp : q < p) (hpe : p ≤ e) (hes : e ≤ s.size) :
    Calls Try.prog 58 #[.string s, .int .i64 (q : Int), .int .i64 (p : Int), .int .i64 (e : Int)] w fun e' w' => e' = .returned (.tuple #[.int .i64 (cmn s (e - p) q p : Nat), .int .i64 0]) ∧ Below w.heap.size w w' := by
  have g1 : ¬ (q : Int) < 0 := by omega
  have g2 : ¬ (p : Int) ≤ (q : Int) := by omega
  have g3 : ¬ (e : Int) < (p : Int) := by omega
  have g4 : ¬ (s.size : Int) < (e : Int) := by omega
  have g5 : ¬ (1048576 : Int) < (s.size : Int) := by omega
  go_enter Try.func58, Try.ntmps58
  go_wp2
  go_loopw [10] (fun v wr => ∃ n : Nat, v = .int .i64 n ∧ p + n ≤ e ∧ Hid (∀ j, j < n → byt s (q + j) = byt s (p + j)) ∧ Below w.heap.size w wr) (fun v _ => e - p - (intOf v).toNat)
  case atStart => exact ⟨0, rfl, by omega, fun j hj => by omega, Below.refl _ _⟩
  case round =>
    obtain ⟨n, rfl, hn, HE, hb⟩ := hrel
    by_cases hlt : p + n < e
    · have hq : q + n < s.size := by omega
      have hp : p + n < s.size := by omega
      obtain ⟨c, hc⟩ : ∃ c : Nat, (s[q + n]'hq).toNat = c := ⟨_, rfl⟩
      obtain ⟨d, hd⟩ : ∃ d : Nat, (s[p + n]'hp).toNat = d := ⟨_, rfl⟩
      have HC := Lib.hid (byt_get hq hc)
      have HD := Lib.hid (byt_get hp hd)
      have i0 : (0 : Int) ≤ (q : Int) + (n : Int) := by omega
      have i1 : (q : Int) + (n : Int) < (s.size : Int) := by omega
      have i2 : (0 : Int) ≤ (p : Int) + (n : Int) := by omega
      have i3 : (p : Int) + (n : Int) < (s.size : Int) := by omega
      have i4 : decide ((p : Int) + (n : Int) < (e : Int)) = true := decide_eq_true (by omega)
      have t1 : ((q : Int) + (n : Int)).toNat = q + n := by omega
      have t2 : ((p : Int) + (n : Int)).toNat = p + n := by omega
      by_cases hcd : c = d
      · have e2 : ((c : Int) == (d : Int)) = true := by simp; omega
        go_wp2
        go_quiet (fail)
        go_wp2
        go_roundw
        case rel =>
          refine ⟨n + 1, by go_num, by omega, fun j hj => ?_, below_drewN hb _⟩
          by_cases hjn : j < n
          · exact HE.out j hjn
          · obtain rfl : j = n := by omega
            rw [HC.out, HD.out, hcd]
        case measure => go_light; simp [intOf] <;> omega
      · have e2 : ((c : Int) == (d : Int)) = false := by simp; omega
        have E1 := Lib.hid (cmn_eq s n (e - p) q p (by omega) HE.out (.inr (by rw [HC.out, HD.out]; exact hcd)))
        go_wp2
        go_quiet (fail)
        go_wp2
        go_ret2
        exact ⟨by rw [E1.out]; rfl, below_drewN hb _⟩
    · have E1 := Lib.hid (cmn_eq s n (e - p) q p (by omega) HE.out (.inl (by omega)))
      have i4 : decide ((p : Int) + (n : Int) < (e : Int)) = false := decide_eq_false (by omega)
      go_wp2
      go_quiet (fail)
      go_wp2
      go_ret2
      exact ⟨by rw [E1.out]; rfl, below_drewN hb _⟩
theorem rcommon_p (s : ByteArray) (q p e : Int) (w : World) (hl : s.size ≤ 9223372036854775807) :
    Calls Try.prog 58 #[.string s, .int .i64 q, .int .i64 p, .int .i64 e] w fun e' w' => e' = .returned (.tuple #[.int .i64 (wcom s q p e).1, .int .i64 (wcom s q p e).2]) ∧ Below w.heap.size w w' := by
  unfold wcom
  by_cases h0 : (1048576 : Int) < (s.size : Int)
  · rw [if_pos (by omega)]
    go_enter Try.func58, Try.ntmps58
    go_wp2
    repeat' (first | (go_region <;> go_wp2))
    all_goals go_light
    all_goals (refine bodyPost_ret (v := .tuple #[.int .i64 0, .int .i64 4]) (by simp [results, Try.results58, go_sem, *]) rfl ⟨rfl, ?_⟩; repeat' (first | exact Below.refl _ _ | refine Below.drew ?_ | refine below_drewN ?_ _ | refine Below.alloc ?_ (by first | omega | (simp <;> omega)) _ | refine Below.setCell ?_ (by first | omega | (simp <;> omega)) _ | refine Below.trans ?_ (Below.mono (by assumption) (by first | omega | (simp <;> omega)))))
  · rw [if_neg (by omega)]
    by_cases h1 : 0 ≤ q ∧ q < p ∧ p ≤ e ∧ e ≤ (s.size : Int)
    · rw [if_pos h1]
      obtain ⟨a1, a2, a3, a4⟩ := h1
      obtain ⟨q, rfl⟩ : ∃ n : Nat, q = (n : Int) := ⟨q.toNat, by omega⟩
      obtain ⟨p, rfl⟩ : ∃ n : Nat, p = (n : Int) := ⟨p.toNat, by omega⟩
      obtain ⟨e, rfl⟩ : ∃ n : Nat, e = (n : Int) := ⟨e.toNat, by omega⟩
      have t1 : ((e : Int) - (p : Int)).toNat = e - p := by omega
      simp only [t1, Int.toNat_natCast]
      exact rcommon_1 s q p e w (by omega) (by omega) (by omega) (by omega)
    · rw [if_neg h1]
      have h3 : q < 0 ∨ (¬ q < 0 ∧ p ≤ q) ∨ (¬ q < 0 ∧ ¬ p ≤ q ∧ e < p) ∨ (¬ q < 0 ∧ ¬ p ≤ q ∧ ¬ e < p ∧ (s.size : Int) < e) := by omega
      clear h1
      rcases h3 with a | ⟨a, b⟩ | ⟨a, b, c⟩ | ⟨a, b, c, d⟩
      all_goals
        go_enter Try.func58, Try.ntmps58
        go_wp2
        repeat' (first | (go_region <;> go_wp2))
        all_goals go_light
        all_goals (refine bodyPost_ret (v := .tuple #[.int .i64 0, .int .i64 2]) (by simp [results, Try.results58, go_sem, *]) rfl ⟨rfl, ?_⟩; repeat' (first | exact Below.refl _ _ | refine Below.drew ?_ | refine below_drewN ?_ _ | refine Below.alloc ?_ (by first | omega | (simp <;> omega)) _ | refine Below.setCell ?_ (by first | omega | (simp <;> omega)) _ | refine Below.trans ?_ (Below.mono (by assumption) (by first | omega | (simp <;> omega)))))

theorem pow_le {l : Int} (h : l ≤ 27) : 1 ≤ (2 : Int) ^ l.toNat ∧ (2 : Int) ^ l.toNat ≤ 134217728 := by
  have key : ∀ k : Fin 28, 1 ≤ (2 : Int) ^ k.1 ∧ (2 : Int) ^ k.1 ≤ 134217728 := by decide
  exact key ⟨l.toNat, by omega⟩
theorem reach_t (p l : Int) (w : World) (h1 : 10 ≤ l) (h2 : l ≤ 27) (h3 : 0 ≤ p) (h4 : p ≤ 1048576) : Calls Try.prog 104 #[.int .i64 p, .int .i64 l] w fun e' w' => e' = .returned (.int .i64 (min p ((2 : Int) ^ l.toNat))) ∧ Below w.heap.size w w' := by
  have hk := pow_le h2
  obtain ⟨P, hP⟩ : ∃ P, (2 : Int) ^ l.toNat = P := ⟨_, rfl⟩
  rw [hP] at hk ⊢
  obtain ⟨k1, k2⟩ := hk
  obtain ⟨M, hM⟩ : ∃ M, min p P = M := ⟨_, rfl⟩
  rw [hM]
  have HM := Lib.hid hM
  clear hM
  by_cases hc : p ≤ P
  · have e1 : p = M := by rw [← HM.out]; omega
    have E1 := Lib.hid e1
    clear e1
    go_enter Try.func104, Try.ntmps104
    go_wp2
    all_goals go_ret
    all_goals exact ⟨by first | (rw [← E1.out]; rfl) | (exfalso; omega), Below.refl _ _⟩
  · have e1 : P = M := by rw [← HM.out]; omega
    have E1 := Lib.hid e1
    clear e1
    go_enter Try.func104, Try.ntmps104
    go_wp2
    all_goals go_ret
    all_goals exact ⟨by first | (rw [← E1.out]; rfl) | (exfalso; omega), Below.refl _ _⟩
/-- What Reach returns. -/
def wrea (p l : Int) : Int × Int := if 0 ≤ p ∧ p ≤ 1048576 ∧ 10 ≤ l ∧ l ≤ 27 then (min p ((2 : Int) ^ l.toNat), 0) else (0, 2)

end Go.Proofs.Ytammacofhdbgcaa
namespace Go.Proofs.Ytammacofhdbgcaa
open Go.RowKit
set_option linter.unusedSimpArgs false
set_option linter.unusedVariables false
attribute [local go_sem] Oper.semAt_some

/-- The four bytes at a place, as the program holds them. -/
def b4 (s : ByteArray) (q : Nat) : List Value := [.int .u8 (byt s q : Nat), .int .u8 (byt s (q + 1) : Nat), .int .u8 (byt s (q + 2) : Nat), .int .u8 (byt s (q + 3) : Nat)]
theorem ext4 (s : ByteArray) (q : Nat) (h : q + 4 ≤ s.size) : (s.extract q (q + 4)).data.toList.map (fun x => Value.int .u8 (x.toNat : Int)) = b4 s q := by
  have hs : s.data.size = s.size := rfl
  have e : ∀ i (hi : i < 4), (s.extract q (q + 4)).data.toList[i]? = some (s[q + i]'(by omega)) := by
    intro i hi
    simp only [ByteArray.data_extract, Array.toList_extract]
    simp
    rw [List.getElem?_take, if_pos hi, List.getElem?_drop, Array.getElem?_toList, Array.getElem?_eq_getElem (by omega)]
    rfl
  have hb : ∀ i (hi : i < 4), byt s (q + i) = (s[q + i]'(by omega)).toNat := fun i hi => byt_get (by omega) rfl
  apply List.ext_getElem?
  intro i
  rw [List.getElem?_map]
  by_cases hi : i < 4
  · rw [e i hi]
    have := hb i hi
    rcases i with _ | _ | _ | _ | i
    · simp [b4] at this ⊢; rw [this]
    · simp [b4] at this ⊢; rw [this]
    · simp [b4] at this ⊢; rw [this]
    · simp [b4] at this ⊢; rw [this]
    · omega
  · have hz : (s.extract q (q + 4)).data.toList.length = 4 := by
      simp [ByteArray.data_extract]
      omega
    rw [List.getElem?_eq_none (by omega), List.getElem?_eq_none (by simp [b4]; omega)]
    rfl
set_option maxRecDepth 100000 in
theorem at_t (s : ByteArray) (q : Nat) (w : World) (h : q + 4 ≤ s.size) (hl : s.size ≤ 1048576) : Calls Try.prog 105 #[.string s, .int .i64 (q : Int)] w fun e' w' => e' = .returned (.agg (b4 s q).toArray) ∧ Below w.heap.size w w' := by
  have g1 : (0 : Int) ≤ (q : Int) + 4 := by omega
  have g2 : (q : Int) + 4 ≤ (s.size : Int) := by omega
  have g3 : (0 : Int) ≤ (q : Int) := by omega
  have g4 : (q : Int) ≤ (q : Int) + 4 := by omega
  have hz4 : (s.extract q (q + 4)).size = 4 := by simp; omega
  have hcp : (Builtin.copy_ #[43, 9] 3 #[.slice (some ⟨w.heap.size, 0, none⟩) 4 4, .string (s.extract q (q + 4))]).run Try.prog (w.alloc (.cells #[.int .u8 0, .int .u8 0, .int .u8 0, .int .u8 0] 138)).drew = .ok (goInt 4) (w.alloc (.cells #[.int .u8 (byt s q : Nat), .int .u8 (byt s (q + 1) : Nat), .int .u8 (byt s (q + 2) : Nat), .int .u8 (byt s (q + 3) : Nat)] 138)).drew := by
    have := run_copy_string (P := Try.prog) (w.alloc (.cells #[.int .u8 0, .int .u8 0, .int .u8 0, .int .u8 0] 138)).drew 43 9 3 5 w.heap.size 0 4 4 (s.extract q (q + 4)) Try.underlying43 (fun w => by kernel_rfl) (by omega) (by
      intro j hj
      rw [hz4] at hj
      rcases j with _ | _ | _ | _ | j
      · simp [go_sem]
      · simp [go_sem]
      · simp [go_sem]
      · simp [go_sem]
      · omega) (by intro j hj; simp [go_sem])
    rw [hz4, ext4 s q h] at this
    rw [this]
    congr 1
    simp only [b4, World.setCells]
    have e : ∀ (x : World) (a : Addr) (v : Value), x.drew.setCell a v = (x.setCell a v).drew := fun _ _ _ => rfl
    rw [e, e, e, e]
    congr 1
    simp [go_sem]
  go_enter Try.func105, Try.ntmps105
  go_wp2
  go_region
  go_wp2
  go_light
  refine bodyPost_ret (v := .agg #[.int .u8 (byt s q : Nat), .int .u8 (byt s (q + 1) : Nat), .int .u8 (byt s (q + 2) : Nat), .int .u8 (byt s (q + 3) : Nat)]) (by simp [results, Try.results105, go_sem, *]) rfl ⟨rfl, ?_⟩
  repeat' (first | exact Below.refl _ _ | refine Below.drew ?_ | refine below_drewN ?_ _ | refine Below.alloc ?_ (by first | omega | (simp <;> omega)) _ | refine Below.setCell ?_ (by first | omega | (simp <;> omega)) _ | refine Below.trans ?_ (Below.mono (by assumption) (by first | omega | (simp <;> omega))))
end Go.Proofs.Ytammacofhdbgcaa
namespace Go.Proofs.Ytammacofhdbgcaa
open Go.RowKit
set_option linter.unusedSimpArgs false
set_option linter.unusedVariables false
attribute [local go_sem] Oper.semAt_some
theorem or_mul4 (a b i m : Nat) (hm : m = 2 ^ i) (h : a < m) : a ||| (b * m) = b * m + a := by
  subst hm
  rw [Nat.or_comm, ← Nat.shiftLeft_eq, Nat.shiftLeft_add_eq_or_of_lt h]
theorem or64 (a b : Nat) (ha : a < 2 ^ 62) (hb : b < 2 ^ 62) : bits BinOp.or IntKind.i64 (a : Int) (b : Int) = ((a ||| b : Nat) : Int) := by
  have h := Nat.or_lt_two_pow ha hb
  have e64 : IntKind.i64.bits = 64 := rfl
  unfold bits
  simp only [e64, BitVec.ofInt_natCast, BitVec.toNat_or, BitVec.toNat_ofNat]
  rw [Nat.mod_eq_of_lt (by omega), Nat.mod_eq_of_lt (by omega), IntKind.wrap_i64]
  omega
theorem sum4 (x y z u : Nat) (hx : x < 256) (hy : y < 256) (hz : z < 256) (hu : u < 256) :
    bits BinOp.or IntKind.i64 (bits BinOp.or IntKind.i64 (bits BinOp.or IntKind.i64 (bits BinOp.or IntKind.i64 0 (x : Int)) ((y : Int) * 256)) ((z : Int) * 65536)) ((u : Int) * 16777216) = (x : Int) + y * 256 + z * 65536 + u * 16777216 := by
  have e0 : (0 : Int) = ((0 : Nat) : Int) := rfl
  have e1 : ((y : Int) * 256) = ((y * 256 : Nat) : Int) := by omega
  have e2 : ((z : Int) * 65536) = ((z * 65536 : Nat) : Int) := by omega
  have e3 : ((u : Int) * 16777216) = ((u * 16777216 : Nat) : Int) := by omega
  rw [e1, e2, e3, e0, or64 0 x (by omega) (by omega), Nat.zero_or, or64 x (y * 256) (by omega) (by omega), or_mul4 x y 8 256 (by decide) (by omega), or64 _ (z * 65536) (by omega) (by omega), or_mul4 _ z 16 65536 (by decide) (by omega), or64 _ (u * 16777216) (by omega) (by omega), or_mul4 _ u 24 16777216 (by decide) (by omega)]
  omega
theorem idx4_0 (x y z u : Value) (w : World) : (Instr.index 138 (.agg #[x, y, z, u]) (.int .i64 0)).run Try.prog w = .ok x w := by kernel_rfl
attribute [local go_sem] idx4_0
theorem idx4_1 (x y z u : Value) (w : World) : (Instr.index 138 (.agg #[x, y, z, u]) (.int .i64 1)).run Try.prog w = .ok y w := by kernel_rfl
attribute [local go_sem] idx4_1
theorem idx4_2 (x y z u : Value) (w : World) : (Instr.index 138 (.agg #[x, y, z, u]) (.int .i64 2)).run Try.prog w = .ok z w := by kernel_rfl
attribute [local go_sem] idx4_2
theorem idx4_3 (x y z u : Value) (w : World) : (Instr.index 138 (.agg #[x, y, z, u]) (.int .i64 3)).run Try.prog w = .ok u w := by kernel_rfl
attribute [local go_sem] idx4_3

/-- What Four returns. -/
def wfour (s : ByteArray) (p : Int) : Int × Int := if 1048576 < s.size then (0, 4) else if 0 ≤ p ∧ p + 4 ≤ (s.size : Int) then ((byt s p.toNat : Int) + (byt s (p.toNat + 1) : Nat) * 256 + (byt s (p.toNat + 2) : Nat) * 65536 + (byt s (p.toNat + 3) : Nat) * 16777216, 0) else (0, 2)
theorem byt_lt (s : ByteArray) (i : Nat) : byt s i < 256 := by
  unfold byt
  split
  · exact UInt8.toNat_lt _
  · decide

end Go.Proofs.Ytammacofhdbgcaa
namespace Go.Proofs.Ytammacofhdbgcaa
open Go.RowKit
set_option linter.unusedSimpArgs false
set_option linter.unusedVariables false
/-- Four bytes at a place, as numbers. -/
def fours (s : ByteArray) (q : Nat) : List Nat := [byt s q, byt s (q + 1), byt s (q + 2), byt s (q + 3)]
/-- The places from a on, n of them, that hold the same four bytes as place p. -/
def plc (s : ByteArray) (p a n : Nat) : List Nat := (List.range' a n).filter fun q => fours s q == fours s p
theorem plc_zero (s : ByteArray) (p a : Nat) : plc s p a 0 = [] := rfl
theorem plc_front (s : ByteArray) (p a n : Nat) : plc s p a (n + 1) = (if fours s a = fours s p then [a] else []) ++ plc s p (a + 1) n := by
  unfold plc
  rw [List.range'_succ, List.filter_cons]
  by_cases h : fours s a = fours s p <;> simp [h]
theorem plc_back (s : ByteArray) (p a n : Nat) : plc s p a (n + 1) = plc s p a n ++ (if fours s (a + n) = fours s p then [a + n] else []) := by
  unfold plc
  rw [List.range'_concat, List.filter_append]
  by_cases h : fours s (a + n) = fours s p <;> simp [h]
/-- How far back candidates may lie. -/
def wback (p l : Nat) : Nat := min p (2 ^ l)
/-- The candidates of a place, the nearest one first, at most so many. -/
def cands (s : ByteArray) (p e l most : Nat) : List Nat := if e - p < 4 then [] else ((plc s p (p - wback p l) (wback p l)).reverse).take most
/-- The reference's way: one place further back. -/
theorem back_step (s : ByteArray) (p k : Nat) (h : k < p) : (plc s p (p - (k + 1)) (k + 1)).reverse = (plc s p (p - k) k).reverse ++ (if fours s (p - (k + 1)) = fours s p then [p - (k + 1)] else []) := by
  rw [plc_front, List.reverse_append, show p - (k + 1) + 1 = p - k by omega]
  congr 1
  split <;> rfl
theorem take_app_full {α : Type} (l r : List α) (m : Nat) (h : l.length = m) : (l ++ r).take m = l := by
  subst h
  simp
end Go.Proofs.Ytammacofhdbgcaa
namespace Go.Proofs.Ytammacofhdbgcaa
open Go.RowKit Go.MapKept Go.Maps Go.WideMaps
open Go.ChangeMaps (setBlock heap_setBlock_same heap_setBlock_other modify_eq_set)
open Go.WideElems (findIdx_born findIdx_arr modify_last set_self)
set_option linter.unusedSimpArgs false
set_option linter.unusedVariables false
theorem arr4 : ArrKey Try.prog 138 5 4 := ⟨Try.underlying138, by kernel_rfl, by kernel_rfl, by kernel_rfl⟩
theorem keyed4 : Keyed Try.prog 138 := Keyed.of_law arr4.law
theorem zero4 (u : World) : (zeroValue 37).run Try.prog u = .ok (.slice none 0 0) u := by kernel_rfl
/-- The key of a place. -/
def key4 (s : ByteArray) (q : Nat) : Value := .agg (b4 s q).toArray
theorem key4_iff (s : ByteArray) (q p : Nat) : key4 s q = key4 s p ↔ fours s q = fours s p := by
  unfold key4 b4 fours
  simp [Int.natCast_inj]
theorem keyOf4 {a b c d : Int} (wa : (Lit.int .u8 a).wf = true) (wb : (Lit.int .u8 b).wf = true) (wc : (Lit.int .u8 c).wf = true) (wd : (Lit.int .u8 d).wf = true) :
    keyOf Try.prog 138 (.agg #[.int .u8 a, .int .u8 b, .int .u8 c, .int .u8 d]) = some (.string (keyBytes [.int .u8 a, .int .u8 b, .int .u8 c, .int .u8 d])) := by
  have A := arr4
  have he : Try.prog.underlying 5 = some (.int .u8) := Try.underlying5
  have hsz : ∃ m, Try.prog.types.size = m + 1 := ⟨Try.prog.types.size - 1, by decide +kernel⟩
  have hkt := A.keyType hsz
  obtain ⟨m, hm⟩ := hsz
  unfold keyOf
  simp only [A.hu]
  rw [if_pos (by simp [hkt, Value.formed, A.hu, A.size]), hm]
  unfold Program.keyLits
  simp only [A.hu, Value.cells]
  rw [if_pos (by rw [A.size]; rfl), show List.range 4 = [0, 1, 2, 3] from rfl, List.mapM_cons, List.mapM_cons, List.mapM_cons, List.mapM_cons, List.mapM_nil]
  simp [A.one, Program.keyLits, he, wa, wb, wc, wd]
theorem wf_byt (s : ByteArray) (i : Nat) : (Lit.int .u8 (byt s i : Nat)).wf = true := by
  have := byt_lt s i
  simp [Lit.wf, IntKind.min, IntKind.max, IntKind.signed, IntKind.bits]
  omega
theorem keyOf_key4 (s : ByteArray) (q : Nat) : ∃ l, keyOf Try.prog 138 (key4 s q) = some l := ⟨_, keyOf4 (wf_byt s _) (wf_byt s _) (wf_byt s _) (wf_byt s _)⟩
theorem plc_congr {s : ByteArray} {q p : Nat} (h : fours s q = fours s p) (a n : Nat) : plc s q a n = plc s p a n := by unfold plc; rw [h]
/-- Places as the program holds them. -/
def nats (l : List Nat) : List Int := l.map fun (n : Nat) => (n : Int)
def pvals (l : List Nat) : List Value := (nats l).map (Value.int .i64)
/-- An entry of the map. -/
def EntOk (w : World) (base : Nat) (s : ByteArray) (a n : Nat) (e : Go.MapEntry) : Prop :=
  ∃ q, e.key = key4 s q ∧ plc s q a n ≠ [] ∧ w.ownsRow base 3 1 e.val (plc s q a n).length (pvals (plc s q a n))
/-- Block B is the map of the places from a on, n of them. -/
def Grp (w : World) (base B : Nat) (s : ByteArray) (a n : Nat) : Prop :=
  ∃ es clock, w.heap[B]? = some (.map es clock) ∧ Stamped es clock ∧ B < base ∧ (∀ e ∈ es.toList, EntOk w base s a n e) ∧ (∀ q, (∀ e ∈ es.toList, e.key ≠ key4 s q) → plc s q a n = []) ∧
    (∀ x ∈ es.toList, ∀ y ∈ es.toList, x.key ≠ y.key → x.val.ownBlock ≠ y.val.ownBlock)
/-- The same, but that the entry at a place's key, which has this stamp, is open. -/
def Hole (w : World) (base B : Nat) (s : ByteArray) (a n q : Nat) (v : Value) (st : Nat) : Prop :=
  ∃ es clock, w.heap[B]? = some (.map es clock) ∧ Stamped es clock ∧ B < base ∧ (∃ (j : Nat) (e0 : Go.MapEntry), es.toList[j]? = some e0 ∧ e0.key = key4 s q ∧ e0.born = st) ∧
    (∀ e ∈ es.toList, e.key ≠ key4 s q → EntOk w base s a n e ∧ e.val.ownBlock ≠ v.ownBlock) ∧ (∀ q', (∀ e ∈ es.toList, e.key ≠ key4 s q') → plc s q' a n = []) ∧
    (∀ x ∈ es.toList, ∀ y ∈ es.toList, x.key ≠ key4 s q → y.key ≠ key4 s q → x.key ≠ y.key → x.val.ownBlock ≠ y.val.ownBlock)
theorem own_some {w : World} {base : Nat} {e : TypeId} {v : Value} {n : Nat} {xs : List Value} (h : w.ownsRow base e 1 v n xs) (hn : xs ≠ []) : ∃ g, v.ownBlock = some g ∧ base ≤ g ∧ g < w.heap.size := by
  obtain ⟨hl, h⟩ := h
  rcases h with ⟨rfl, rfl⟩ | ⟨g, cap, cur, rfl, hg, hh, _⟩
  · exact absurd (List.length_eq_zero_iff.1 (by simpa using hl)) hn
  · exact ⟨g, rfl, hg, (Array.getElem?_eq_some_iff.1 hh).1⟩
theorem own_base {w : World} {base : Nat} {e : TypeId} {v : Value} {n : Nat} {xs : List Value} (h : w.ownsRow base e 1 v n xs) : ∀ g, v.ownBlock = some g → base ≤ g := by
  intro g hg
  obtain ⟨hl, h⟩ := h
  rcases h with ⟨rfl, rfl⟩ | ⟨g', cap, cur, rfl, hg', hh, _⟩
  · cases hg
  · cases hg; exact hg'
theorem EntOk.some {w : World} {base : Nat} {s : ByteArray} {a n : Nat} {e : MapEntry} (h : EntOk w base s a n e) : ∃ g, e.val.ownBlock = some g ∧ base ≤ g ∧ g < w.heap.size := by
  obtain ⟨q, _, h1, h2⟩ := h
  exact own_some h2 (by simp [pvals, nats, h1])
theorem EntOk.kept {w w' : World} {base : Nat} {s : ByteArray} {a n : Nat} {e : MapEntry} {row : Option Nat} (h : EntOk w base s a n e) (hg : w.grownBy w' row) (hne : e.val.ownBlock ≠ row) : EntOk w' base s a n e := by
  obtain ⟨q, h0, h1, h2⟩ := h
  exact ⟨q, h0, h1, h2.kept hg (.inr hne)⟩
theorem grown_setBlock {w : World} {b : Nat} {es : Array MapEntry} {clock : Nat} (hb : w.heap[b]? = some (.map es clock)) (o : Obj) : w.grownBy (setBlock w b o) (some b) :=
  ⟨rfl, rfl, rfl, by simp [setBlock], fun i _ hi => heap_setBlock_other hb _ (fun e1 => hi (by rw [e1]))⟩
theorem grown_later {w w' : World} (h : Below w.heap.size w w') (row : Option Nat) : w.grownBy w' row := ⟨h.os, h.tape, h.output, h.size, fun k hk _ => h.block k hk⟩
theorem Grp.made (w : World) (s : ByteArray) (a : Nat) : Grp (w.alloc (.map #[] 0)) (w.heap.size + 1) w.heap.size s a 0 :=
  ⟨#[], 0, (MapKept.heap_alloc w _).1, stamped_empty 0, by omega, by simp, fun q _ => rfl, by simp⟩
theorem Grp.later {w w' : World} {base B : Nat} {s : ByteArray} {a n : Nat} (h : Grp w base B s a n) (hb : Below w.heap.size w w') : Grp w' base B s a n := by
  obtain ⟨es, clock, h1, h2, h3, h4, h5, h6⟩ := h
  refine ⟨es, clock, (hb.block _ (Array.getElem?_eq_some_iff.1 h1).1).trans h1, h2, h3, fun e he => (h4 e he).kept (grown_later hb none) ?_, h5, h6⟩
  obtain ⟨g, hg, _⟩ := (h4 e he).some
  rw [hg]
  simp
theorem Hole.grown {w w' : World} {base B : Nat} {s : ByteArray} {a n q : Nat} {v v' : Value} {st : Nat} (h : Hole w base B s a n q v st) (hv : ∀ g, v.ownBlock = some g → base ≤ g) (hg : w.grownBy w' v.ownBlock) (hv' : v'.ownBlock = v.ownBlock ∨ ∃ g, v'.ownBlock = some g ∧ w.heap.size ≤ g) : Hole w' base B s a n q v' st := by
  obtain ⟨es, clock, h1, h2, h3, h4, h5, h6, h7⟩ := h
  refine ⟨es, clock, (hg.block _ (Array.getElem?_eq_some_iff.1 h1).1 ?_).trans h1, h2, h3, h4, fun e he hk => ⟨(h5 e he hk).1.kept hg (h5 e he hk).2, ?_⟩, h6, h7⟩
  · intro e
    have := hv B e.symm
    omega
  · obtain ⟨g, e1, _, e3⟩ := (h5 e he hk).1.some
    rcases hv' with e2 | ⟨g', e2, e4⟩
    · rw [e2]; exact (h5 e he hk).2
    · rw [e1, e2]
      intro e5
      cases e5
      omega
theorem mapEntry_grp {w : World} {base B : Nat} {s : ByteArray} {a n : Nat} (h : Grp w base B s a n) (q : Nat) :
    ∃ (v : Value) (st : Nat) (w1 : World), (Instr.mapEntry 136 (.map (some B)) (key4 s q)).run Try.prog w = .ok (.tuple #[v, goInt st]) w1 ∧ w1.ownsRow base 3 1 v (plc s q a n).length (pvals (plc s q a n)) ∧ Hole w1 base B s a n q v st ∧ w.grownBy w1 (some B) := by
  obtain ⟨es, clock, hb, h2, h3, h4, h5, h6⟩ := h
  obtain ⟨kl, hkey⟩ := keyOf_key4 s q
  have ht := Try.underlying136
  have keys : ∀ e ∈ es.toList, ∃ l, keyOf Try.prog 138 e.key = some l := fun e he => by
    obtain ⟨q', hq, _⟩ := h4 e he
    rw [hq]
    exact keyOf_key4 s q'
  have hold : ∀ (es1 : Array MapEntry) (c1 : Nat), ∀ e ∈ es.toList, EntOk (setBlock w B (.map es1 c1)) base s a n e := fun es1 c1 e he => by
    refine (h4 e he).kept (grown_setBlock hb _) ?_
    obtain ⟨g, hg, hg2, _⟩ := (h4 e he).some
    rw [hg]
    intro e5
    cases e5
    omega
  rcases keyed4.find w hkey es.toList keys with ⟨k1, k2⟩ | ⟨j, e0, k1, k2, k3⟩
  · refine ⟨.slice none 0 0, clock, _, ?_, ?_, ⟨es.push ⟨key4 s q, .slice none 0 0, clock⟩, clock + 1, heap_setBlock_same hb _, stamped_push h2 k2, h3, ⟨es.size, ⟨key4 s q, .slice none 0 0, clock⟩, by simp, rfl, rfl⟩, ?_, ?_, ?_⟩, grown_setBlock hb _⟩
    · simp [Instr.mapEntry, run_underlying ht, MapKept.run_getObj_map hb, keyed4.check w false hkey, k1, zero4, MapKept.run_setObj_map _ hb, Result.andThen, setBlock]
    · rw [h5 q k2]
      exact World.ownsRow_nil _ _ _ _
    · intro e he hk
      simp only [Array.toList_push, List.mem_append, List.mem_singleton] at he
      rcases he with he | rfl
      · refine ⟨hold _ _ e he, ?_⟩
        obtain ⟨g, hg, _⟩ := (h4 e he).some
        rw [hg]
        simp [Value.ownBlock]
      · exact absurd rfl hk
    · intro q' hq'
      exact h5 q' (fun e he => hq' e (by simp [he]))
    · intro x hx y hy hxk hyk
      simp only [Array.toList_push, List.mem_append, List.mem_singleton] at hx hy
      rcases hx with hx | rfl
      · rcases hy with hy | rfl
        · exact h6 x hx y hy
        · exact absurd rfl hyk
      · exact absurd rfl hxk
  · have hj : es[j]? = some e0 := by simpa using k2
    have hm := List.mem_of_getElem? k2
    have hsame : es.modify j (fun e => { e with key := key4 s q }) = es := by
      apply Array.ext'
      rw [Array.toList_modify, modify_eq_set _ _ _ _ k2]
      have : ({ e0 with key := key4 s q } : MapEntry) = e0 := by rw [← k3]
      rw [this]
      exact set_self _ _ _ k2
    refine ⟨e0.val, e0.born, setBlock w B (.map es clock), ?_, ?_, ⟨es, clock, heap_setBlock_same hb _, h2, h3, ⟨j, e0, k2, k3, rfl⟩, fun e he hk => ⟨hold _ _ e he, h6 e he e0 hm (by rw [k3]; exact hk)⟩, h5, fun x hx y hy _ _ => h6 x hx y hy⟩, grown_setBlock hb _⟩
    · simp [Instr.mapEntry, run_underlying ht, MapKept.run_getObj_map hb, keyed4.check w false hkey, k1, hj, k3, keyed4.stays w hkey, hsame, MapKept.run_setObj_map _ hb, Result.andThen, setBlock]
    · obtain ⟨q', e1, e2, e3⟩ := hold es clock e0 hm
      rw [← plc_congr ((key4_iff s q' q).1 (e1.symm.trans k3)) a n]
      exact e3
theorem plc_next (s : ByteArray) (q a n : Nat) : plc s q a (n + 1) = if fours s (a + n) = fours s q then plc s q a n ++ [a + n] else plc s q a n := by
  rw [plc_back]
  split <;> simp
theorem plc_self (s : ByteArray) (a n : Nat) : plc s (a + n) a (n + 1) = plc s (a + n) a n ++ [a + n] := by rw [plc_next, if_pos rfl]
theorem entryStore_grp {w : World} {base B : Nat} {s : ByteArray} {a n : Nat} {v : Value} {st : Nat} (h : Hole w base B s a n (a + n) v st)
    (hv : w.ownsRow base 3 1 v (plc s (a + n) a (n + 1)).length (pvals (plc s (a + n) a (n + 1)))) :
    ∃ w1, (Instr.entryStore 136 (.map (some B)) (goInt st) v).run Try.prog w = .ok () w1 ∧ Grp w1 base B s a (n + 1) ∧ w.grownBy w1 (some B) := by
  obtain ⟨es, clock, hb, h2, h3, ⟨j, e0, k1, k2, k3⟩, h5, h6, h7⟩ := h
  have hidx : es.findIdx? (fun e => ((e.born : Nat) : Int) == ((st : Nat) : Int)) = some j := by
    rw [findIdx_arr, ← k3]
    exact findIdx_born h2.2.1 k1
  have hj : es[j]? = some e0 := by simpa using k1
  have hne1 : plc s (a + n) a (n + 1) ≠ [] := by rw [plc_next, if_pos rfl]; simp
  have mem : ∀ e ∈ (es.modify j (fun e => { e with val := v })).toList, (e ∈ es.toList ∧ e.key ≠ key4 s (a + n)) ∨ (e.key = key4 s (a + n) ∧ e.val = v) := by
    intro e he
    obtain ⟨i, hi⟩ := List.getElem?_of_mem he
    rw [Array.getElem?_toList, Array.getElem?_modify] at hi
    by_cases hji : j = i
    · subst hji
      simp [hj] at hi
      subst hi
      exact .inr ⟨k2, rfl⟩
    · rw [if_neg hji] at hi
      have hm : e ∈ es.toList := Array.mem_toList_iff.2 (Array.mem_of_getElem? hi)
      refine .inl ⟨hm, fun hk => hji ?_⟩
      have hp := h2.2.2
      have l1 := (Array.getElem?_eq_some_iff.1 hi).1
      have l2 := (Array.getElem?_eq_some_iff.1 hj).1
      have gi : (es.toList.map (·.key))[i]? = some (key4 s (a + n)) := by simp [hi, hk]
      have gj : (es.toList.map (·.key))[j]? = some (key4 s (a + n)) := by simp [hj, k2]
      obtain ⟨m1, gi2⟩ := List.getElem?_eq_some_iff.1 gi
      obtain ⟨m2, gj2⟩ := List.getElem?_eq_some_iff.1 gj
      rcases Nat.lt_trichotomy i j with hl | hl | hl
      · exact absurd (gi2.trans gj2.symm) (List.pairwise_iff_getElem.1 hp i j m1 m2 hl)
      · exact hl.symm
      · exact absurd (gj2.trans gi2.symm) (List.pairwise_iff_getElem.1 hp j i m2 m1 hl)
  have own' : ∀ {u : Value} {k : Nat} {xs : List Value}, w.ownsRow base 3 1 u k xs → (setBlock w B (.map (es.modify j fun e => { e with val := v }) clock)).ownsRow base 3 1 u k xs := fun {u k xs} ho => by
    refine ho.kept (grown_setBlock hb _) (.inr ?_)
    intro e
    have := own_base ho B e
    omega
  have hkeys : (es.modify j (fun e => { e with val := v })).toList.map (·.key) = es.toList.map (·.key) := modify_keys j _ (fun _ _ => rfl)
  refine ⟨_, ?_, ⟨es.modify j (fun e => { e with val := v }), clock, heap_setBlock_same hb _, stamped_modify h2 j _ (fun _ _ => rfl) (fun _ _ _ => rfl), h3, ?_, ?_, ?_⟩, grown_setBlock hb _⟩
  · simp [Instr.entryStore, MapKept.run_getObj_map hb, asInt, asIntOf, goInt, hidx, MapKept.run_setObj_map _ hb, Result.andThen, setBlock]
  · intro e he
    rcases mem e he with ⟨hm, hk⟩ | ⟨hk, rfl⟩
    · obtain ⟨q, e1, e2, e3⟩ := (h5 e hm hk).1
      have hq : fours s (a + n) ≠ fours s q := fun e4 => hk (e1.trans ((key4_iff s q (a + n)).2 e4.symm))
      have e5 : plc s q a (n + 1) = plc s q a n := by rw [plc_next, if_neg hq]
      exact ⟨q, e1, by rw [e5]; exact e2, by rw [e5]; exact own' e3⟩
    · exact ⟨a + n, hk, hne1, own' hv⟩
  · intro q hq
    have hq2 : ∀ e ∈ es.toList, e.key ≠ key4 s q := fun e he hk => by
      have hm : e.key ∈ (es.modify j (fun e => { e with val := v })).toList.map (·.key) := by rw [hkeys]; exact List.mem_map.2 ⟨e, he, rfl⟩
      obtain ⟨e', he', h'⟩ := List.mem_map.1 hm
      exact hq e' he' (h'.trans hk)
    have hq3 : fours s (a + n) ≠ fours s q := fun e4 => hq2 e0 (List.mem_of_getElem? k1) (k2.trans ((key4_iff s (a + n) q).2 e4))
    rw [plc_next, if_neg hq3]
    exact h6 q hq2
  · intro x hx y hy hxy
    rcases mem x hx with ⟨hm, hk⟩ | ⟨hk, rfl⟩
    · rcases mem y hy with ⟨hm', hk'⟩ | ⟨hk', rfl⟩
      · exact h7 x hm y hm' hk hk' hxy
      · exact (h5 x hm hk).2
    · rcases mem y hy with ⟨hm', hk'⟩ | ⟨hk', e⟩
      · exact (h5 y hm' hk').2.symm
      · exact absurd (hk.trans hk'.symm) hxy
theorem lookup_grp {w : World} {base B : Nat} {s : ByteArray} {a n : Nat} (h : Grp w base B s a n) (q : Nat) :
    ∃ v, (Instr.lookup 136 (.map (some B)) (key4 s q) false).run Try.prog w = .ok v w ∧ w.ownsRow base 3 1 v (plc s q a n).length (pvals (plc s q a n)) := by
  obtain ⟨es, clock, hb, h2, h3, h4, h5, h6⟩ := h
  obtain ⟨kl, hkey⟩ := keyOf_key4 s q
  have ht := Try.underlying136
  have keys : ∀ e ∈ es.toList, ∃ l, keyOf Try.prog 138 e.key = some l := fun e he => by
    obtain ⟨q', hq, _⟩ := h4 e he
    rw [hq]
    exact keyOf_key4 s q'
  rcases keyed4.find w hkey es.toList keys with ⟨k1, k2⟩ | ⟨j, e0, k1, k2, k3⟩
  · refine ⟨.slice none 0 0, ?_, ?_⟩
    · simp [Instr.lookup, run_underlying ht, MapKept.run_getObj_map hb, keyed4.check w _ hkey, k1, zero4, Result.andThen]
    · rw [h5 q k2]
      exact World.ownsRow_nil _ _ _ _
  · refine ⟨e0.val, ?_, ?_⟩
    · simp [Instr.lookup, run_underlying ht, MapKept.run_getObj_map hb, keyed4.check w _ hkey, k1, Result.andThen]
    · obtain ⟨q', e1, e2, e3⟩ := h4 e0 (List.mem_of_getElem? k2)
      rw [← plc_congr ((key4_iff s q' q).1 (e1.symm.trans k3)) a n]
      exact e3
end Go.Proofs.Ytammacofhdbgcaa
namespace Go.Proofs.Ytammacofhdbgcaa
open Go.RowKit
set_option linter.unusedSimpArgs false
set_option linter.unusedVariables false
open Go.Shelf
attribute [local go_sem] Oper.semAt_some

section
open Go.Maps
variable {F : Fence} {nF : Nat} {w : World} {ops : Array Oper} {rest : List Oper} {o : Oper} {act : Act} {Q : Exit → Act → World → Prop}
theorem wpListIn_mapEntry_grp (hg : o.guard = none) (m x : Operand) (hop : o.op = Op.mapEntry 136 m x) {base B : Nat} {s : ByteArray} {a n : Nat} (h : Grp w base B s a n) (q : Nat) (hm : act.eval m = .map (some B)) (hx : act.eval x = key4 s q)
    (hK : ∀ (v : Value) (st : Nat) (w1 : World), w1.ownsRow base 3 1 v (plc s q a n).length (pvals (plc s q a n)) → Hole w1 base B s a n q v st → w.grownBy w1 (some B) → wpListIn F nF Try.prog ops Q rest (act.put o.dst (.tuple #[v, .int .i64 (st : Int)])) w1) :
    wpListIn F nF Try.prog ops Q (o :: rest) act w := by
  refine wpListIn_plain hg fun K' hK' => ?_
  obtain ⟨v, st, w1, hrun, r1, r2, r3⟩ := mapEntry_grp h q
  unfold Oper.wpIn
  refine ⟨by simp [Oper.about, hop], ?_⟩
  rw [Oper.semAt_plain F _ _ (by rw [hop]; intro c hc'; cases hc')]
  simp [execOp, hop, hm, hx, hrun, Result.andThen]
  exact hK' _ _ (hK v st w1 r1 r2 r3)
theorem wpListIn_entryStore_grp (hg : o.guard = none) (m x v : Operand) (hop : o.op = Op.entryStore 136 m x v) {base B : Nat} {s : ByteArray} {a n q : Nat} {st : Nat} {val : Value} (hq : a + n = q) (h : Hole w base B s a n q val st)
    (hv : w.ownsRow base 3 1 val (plc s q a (n + 1)).length (pvals (plc s q a (n + 1)))) (hm : act.eval m = .map (some B)) (hx : act.eval x = .int .i64 (st : Int)) (hval : act.eval v = val)
    (hK : ∀ (w1 : World), Grp w1 base B s a (n + 1) → w.grownBy w1 (some B) → wpListIn F nF Try.prog ops Q rest (act.put o.dst undef) w1) :
    wpListIn F nF Try.prog ops Q (o :: rest) act w := by
  refine wpListIn_plain hg fun K' hK' => ?_
  subst hq
  obtain ⟨w1, hrun, r1, r2⟩ := entryStore_grp h hv
  have hx' : act.eval x = goInt st := hx
  unfold Oper.wpIn
  refine ⟨by simp [Oper.about, hop], ?_⟩
  rw [Oper.semAt_plain F _ _ (by rw [hop]; intro c hc'; cases hc')]
  simp [execOp, hop, hm, hx', hval, hrun, Result.andThen]
  exact hK' _ _ (hK w1 r1 r2)
theorem own_next {w : World} {base : Nat} {s : ByteArray} {a k q : Nat} {v : Value} (hq : a + k = q) (h : w.ownsRow base 3 1 v ((plc s q a k).length + 1) (pvals (plc s q a k) ++ [.int .i64 (q : Int)])) :
    w.ownsRow base 3 1 v (plc s q a (k + 1)).length (pvals (plc s q a (k + 1))) := by
  subst hq
  rw [plc_self]
  simpa [pvals, nats] using h
theorem news_one {w : World} {b : Nat} {x : Value} (h : w.cell? ⟨b, 0, none⟩ = some x) : ∀ (j : Nat) (u : Value), [x][j]? = some u → w.cell? ((⟨b, 0, none⟩ : Addr).add j) = some u := by
  intro j u hj
  match j, hj with
  | 0, hj =>
    simp at hj
    subst hj
    simpa [Addr.add] using h
theorem one_int (k : IntKind) (x : Int) : ∀ u ∈ [Value.int k x], u.oneCell' = true := by
  intro u hu
  simp at hu
  subst hu
  rfl
theorem plc_len (s : ByteArray) (q a n : Nat) : (plc s q a n).length ≤ n := by
  unfold plc
  refine Nat.le_trans (List.length_filter_le _ _) (by simp)
theorem wpListIn_lookup_grp (hg : o.guard = none) (m x : Operand) (hop : o.op = Op.lookup 136 m x false) {base B : Nat} {s : ByteArray} {a n : Nat} (h : Grp w base B s a n) (q : Nat) (hm : act.eval m = .map (some B)) (hx : act.eval x = key4 s q)
    (hK : ∀ (ad : Option Addr) (cap N : Nat), Hid ((plc s q a n).length = N) → w.ownsRow base 3 1 (.slice ad N cap) N (pvals (plc s q a n)) → wpListIn F nF Try.prog ops Q rest (act.put o.dst (.slice ad N cap)) w) :
    wpListIn F nF Try.prog ops Q (o :: rest) act w := by
  refine wpListIn_plain hg fun K' hK' => ?_
  obtain ⟨v, hrun, r1⟩ := lookup_grp h q
  obtain ⟨ad, cap, rfl, hn, _⟩ := Row.of_own (k := .i64) r1
  rw [← hn] at hrun r1
  unfold Oper.wpIn
  refine ⟨by simp [Oper.about, hop], ?_⟩
  rw [Oper.semAt_plain F _ _ (by rw [hop]; intro c hc'; cases hc')]
  simp [execOp, hop, hm, hx, hrun, Result.andThen]
  exact hK' _ _ (hK ad cap _ rfl r1)
end

theorem wback_int (p l : Nat) : ((wback p l : Nat) : Int) = min (p : Int) ((2 : Int) ^ l) := by
  unfold wback
  have : ((2 ^ l : Nat) : Int) = (2 : Int) ^ l := by simp
  omega
theorem reach_s (p l : Nat) (w : World) (h1 : 10 ≤ l) (h2 : l ≤ 27) (h4 : p ≤ 1048576) : Calls Try.prog 104 #[.int .i64 (p : Int), .int .i64 (l : Int)] w fun e' w' => e' = .returned (.int .i64 (wback p l : Nat)) ∧ w' = w := by
  have hk := pow_le (l := (l : Int)) (by omega)
  rw [Int.toNat_natCast] at hk
  rw [wback_int]
  obtain ⟨P, hP⟩ : ∃ P, (2 : Int) ^ l = P := ⟨_, rfl⟩
  rw [hP] at hk ⊢
  obtain ⟨k1, k2⟩ := hk
  obtain ⟨M, hM⟩ : ∃ M, min (p : Int) P = M := ⟨_, rfl⟩
  rw [hM]
  have HM := Lib.hid hM
  clear hM
  by_cases hc : p ≤ P
  · have e1 : p = M := by rw [← HM.out]; omega
    have E1 := Lib.hid e1
    clear e1
    go_enter Try.func104, Try.ntmps104
    go_wp2
    all_goals go_ret
    all_goals exact ⟨by first | (rw [← E1.out]; rfl) | (exfalso; omega), rfl⟩
  · have e1 : P = M := by rw [← HM.out]; omega
    have E1 := Lib.hid e1
    clear e1
    go_enter Try.func104, Try.ntmps104
    go_wp2
    all_goals go_ret
    all_goals exact ⟨by first | (rw [← E1.out]; rfl) | (exfalso; omega), rfl⟩

theorem at_4 (s : ByteArray) (q : Nat) (w : World) (h : q + 4 ≤ s.size) (hl : s.size ≤ 1048576) : Calls Try.prog 105 #[.string s, .int .i64 (q : Int)] w fun e' w' => e' = .returned (.agg #[.int .u8 (byt s q : Nat), .int .u8 (byt s (q + 1) : Nat), .int .u8 (byt s (q + 2) : Nat), .int .u8 (byt s (q + 3) : Nat)]) ∧ Below w.heap.size w w' := at_t s q w h hl
/-- The candidates of a place, the nearest one first, all of them. -/
def candAll (s : ByteArray) (p e l : Nat) : List Nat := if e - p < 4 then [] else (plc s p (p - wback p l) (wback p l)).reverse
set_option maxHeartbeats 2000000 in
theorem cand_iter (s : ByteArray) (p e l be bp bl bs ly B0 : Nat) (h1 : s.size ≤ 1048576) (hpe : p ≤ e) (hes : e ≤ s.size) (hl1 : 10 ≤ l) (hl2 : l ≤ 27)
    (J : Nat → Nat → World → Prop) (Jx : World → Prop) (W : World) (hB0 : B0 ≤ W.heap.size) (q1 : be < W.heap.size) (q2 : bp < W.heap.size) (q3 : bl < W.heap.size) (q4 : bs < W.heap.size)
    (hst : ∀ T i X Y, Below X.heap.size X Y → J T i X → J T i Y)
    (hF : ∀ (T i : Nat) (X : World), J T i X → X.cell? ⟨be, 0, none⟩ = some (.int .i64 (e : Int)) ∧ X.cell? ⟨bp, 0, none⟩ = some (.int .i64 (p : Int)) ∧ X.cell? ⟨bl, 0, none⟩ = some (.int .i64 (l : Int)) ∧ X.cell? ⟨bs, 0, none⟩ = some (.string s))
    (hr : ∀ T i X, i < (candAll s p e l).length → T ≤ X.heap.size → J T i X → RoundOk Try.prog ly #[.int .i64 ((candAll s p e l).getD i 0 : Nat)] X (fun W' => J T (i + 1) W' ∧ KeptTo B0 T X W') Jx) (h0 : ∀ T, J T 0 W) :
    Calls Try.prog 103 #[.func (.yield ly) #[] #[], .pointer (some ⟨be, 0, none⟩), .pointer (some ⟨bp, 0, none⟩), .pointer (some ⟨bl, 0, none⟩), .pointer (some ⟨bs, 0, none⟩)] W fun e' W' => (∃ v, e' = .returned v) ∧ ((∃ T, J T (candAll s p e l).length W') ∨ Jx W') := by
  refine callsIn_wide (n := 0) |>.1 (callsIn_of_wp Try.func103 rfl trivial ?_ rfl)
  simp only [Try.ntmps103, List.size_toArray, List.length_cons, List.length_nil, Nat.reduceAdd, Nat.reduceSub, Array.replicate_succ, Array.replicate_zero, List.push_toArray, List.append_toArray, List.nil_append, List.cons_append]
  obtain ⟨c1, c2, c3, c4⟩ := hF 0 0 W (h0 0)
  by_cases hlt : e - p < 4
  · have hn : (candAll s p e l).length = 0 := by unfold candAll; rw [if_pos hlt]; rfl
    have HN := Lib.hid hn
    clear hn
    have g : (e : Int) - (p : Int) < 4 := by omega
    gi_wp2
    refine bodyPost_ret (results_none rfl _ _ _) rfl ?_
    exact ⟨⟨_, rfl⟩, .inl ⟨0, by rw [HN.out]; exact h0 0⟩⟩
  · have g : ¬ (e : Int) - (p : Int) < 4 := by omega
    have hb : wback p l ≤ p := by unfold wback; omega
    gi_wp2
    have hmm := @run_makeMap Try.prog
    refine wpIn_wide.2 ?_
    go_quiet ((go_at_call 104; exact Calls.quiet_of_same (reach_s p l _ hl1 hl2 (by omega))))
    gi_wp2
    obtain ⟨R, hR⟩ : ∃ R, wback p l = R := ⟨_, rfl⟩
    have hRp : R ≤ p := by rw [← hR]; exact hb
    obtain ⟨a, ha⟩ : ∃ a, a + R = p := ⟨p - R, by omega⟩
    have hall : candAll s p e l = (plc s p a R).reverse := by unfold candAll; rw [if_neg hlt, hR, show p - R = a by omega]
    rw [hR]
    have HALL := Lib.hid hall
    have HJ0 := Lib.hid h0
    have HRD := Lib.hid hr
    clear hall hR hb hF hr h0 hmm
    obtain ⟨i0, hi, hz0, hz1, hz2⟩ := info_parts infoInt
    gi_loopw [8] (fun v wr => ∃ k q : Nat, k ≤ R ∧ Hid (a + k = q) ∧ v = .int .i64 (q : Int) ∧ Grp wr (W.heap.size + 1) W.heap.size s a k ∧ Below W.heap.size W wr ∧ W.heap.size + 1 ≤ wr.heap.size) (fun v _ => p - (intOf v).toNat)
    case atStart =>
      refine ⟨0, a, by omega, rfl, by rw [show (p : Int) - (R : Int) = (a : Int) by omega], Grp.made (W.drewN nq) s a, (below_drewN (Below.refl _ _) _).alloc (Nat.le_refl _) _, by simp⟩
    case round =>
      obtain ⟨k, q, hk, HQ, rfl, HG, hb, hsz⟩ := hrel
      have d1 := (hb.cell (p := ⟨be, 0, none⟩) q1).trans c1
      have d2 := (hb.cell (p := ⟨bp, 0, none⟩) q2).trans c2
      have d4 := (hb.cell (p := ⟨bs, 0, none⟩) q4).trans c4
      by_cases hkr : k < R
      · have hq0 := HQ.out
        have hqp : q < p := by omega
        have hq : q + 4 ≤ s.size := by omega
        have i1 : (q : Int) < (p : Int) := by omega
        clear hq0
        have CC : ∀ (w1 w3 : World) (o : Obj), Below wr.heap.size wr w1 → W.heap.size + 1 ≤ wr.heap.size → ((w1.alloc o).alloc (.cells #[.int .i64 (q : Int)] 3)).grownBy w3 (some W.heap.size) → w3.cell? ⟨w1.heap.size + 1, 0, none⟩ = some (.int .i64 (q : Int)) := by
          intro w1 w3 o hb1 hs hg
          refine hg.cell ?_ ?_
          · simp [go_sem]
          · have := hb1.size
            simp
            omega
        gi_wp2
        refine ⟨trivial, rfl, (callsIn_wide.2 (at_4 s q _ hq h1)).mono ?_⟩
        rintro e' w1 ⟨rfl, hb1⟩
        have hsz1 := hb1.size
        have LEN := plc_len s q a k
        gi_wp2_with (first | (gi_at_builtin; refine wpListIn_append_own_at _ rfl _ _ 37 rfl (W.heap.size + 1) 3 i0 (.int .i64 0) 1 8 Try.underlying37 hi hz0 hz1 hz2 rfl (by decide) v _ _ rfl ho ⟨w1.heap.size + 1, 0, none⟩ 1 1 [.int .i64 (q : Int)] rfl rfl ?_ ?_ ?_ ?_ ?_ ?_; exact news_one (CC _ _ _ hb1 hsz hg3); exact one_int _ _; (unfold maxLen; omega); omega; (have := hg3.size; simp at this; omega); intro v' w4 ho' hg4 hnil hat; have ho2 := own_next HQ.out ho') | (refine wpListIn_entryStore_grp rfl _ _ _ rfl HQ.out (Hole.grown hh (own_base ho) hg4 (hat.imp id (fun h => ⟨_, h, Nat.le_refl _⟩))) ho2 rfl rfl rfl ?_; intro w5 HG5 hg5) | (refine wpListIn_mapEntry_grp rfl _ _ rfl (HG.later ?_) q rfl rfl ?_; rotate_left; intro v st w3 ho hh hg3))
        · go_roundw
          case rel =>
            refine ⟨k + 1, q + 1, by omega, ?_, by go_num, HG5, ?_, ?_⟩
            · have := HQ.out
              exact show a + (k + 1) = q + 1 by omega
            · refine (((((((hb.trans (hb1.mono hb.size)).alloc ?_ _).alloc ?_ _).grown hg3 ?_ ?_).grown hg4 ?_ ?_).grown hg5 ?_ ?_))
              · omega
              · simp; omega
              · simp; omega
              · intro j h; cases h; exact Nat.le_refl _
              · have := hg3.size; simp at this; omega
              · intro j h; have := own_base ho j h; omega
              · have := hg3.size; have := hg4.size; simp at *; omega
              · intro j h; cases h; exact Nat.le_refl _
            · have h3 := hg3.size
              have h4 := hg4.size
              have h5 := hg5.size
              simp at h3
              omega
          case measure => go_light; simp [intOf] <;> omega
        · exact (hb1.alloc hsz1 _).alloc (by simp; omega) _
      · have hkk : k = R := by omega
        subst hkk
        have hqq := HQ.out
        obtain rfl : q = p := by omega
        have hkb : k ≤ 1048576 := by omega
        clear hqq ha HQ hk hRp
        gi_wp2
        refine ⟨trivial, rfl, (callsIn_wide.2 (at_4 s q _ (by omega) h1)).mono ?_⟩
        rintro e' w1 ⟨rfl, hb1⟩
        have hsz1 := hb1.size
        gi_wp2_with (refine wpListIn_lookup_grp rfl _ _ rfl (HG.later hb1) q rfl rfl ?_; intro ad cap N HN ho; have hNb : N ≤ 1048576 := by have h9 := HN.out; have h8 := plc_len s q a k; omega)
        obtain ⟨T, hT⟩ : ∃ T, w1.heap.size = T := ⟨_, rfl⟩
        have hT1 : W.heap.size ≤ T := by omega
        have hT2 : T ≤ w1.heap.size := by omega
        have hTg : ∀ g, (Value.slice ad N cap).ownBlock = some g → g < T := by
          intro g hg
          obtain ⟨_, ho2⟩ := ho
          rcases ho2 with ⟨h, _⟩ | ⟨g', cap', cur, h, _, hh, _⟩
          · rw [h] at hg; cases hg
          · rw [h] at hg; cases hg
            rw [← hT]; exact (Array.getElem?_eq_some_iff.1 hh).1
        have HJ := Lib.hid (hst T 0 W w1 (hb.trans (hb1.mono hb.size)) (HJ0.out T))
        have HTG := Lib.hid hTg
        clear hT hTg HG d1 d2 d4 c1 c2 c3 c4 hb hb1 hsz1
        gi_loopw [11] (fun v wx => ∃ (i j : Nat) (x : Int), i + j ≤ N ∧ N ≤ i + j ∧ x + 1 ≤ j ∧ j ≤ x + 1 ∧ v = .int .i64 x ∧ J T i wx ∧ T ≤ wx.heap.size ∧ wx.ownsRow (W.heap.size + 1) 3 1 (.slice ad N cap) N (pvals (plc s q a k))) (fun v _ => (intOf v + 1).toNat)
        case atStart => exact ⟨0, N, (N : Int) - 1, by omega, by omega, by omega, by omega, rfl, HJ.out, hT2, ho⟩
        case round =>
          clear ho HJ hT2
          obtain ⟨i, j, x, e1, e2, e3, e4, rfl, hj, hT2, ho⟩ := hrel
          by_cases hx : 0 ≤ x
          · obtain ⟨m, rfl⟩ : ∃ m : Nat, x = (m : Int) := ⟨x.toNat, by omega⟩
            have hm : m < N := by omega
            have i1 : (m : Int) < (N : Int) := by omega
            have hrow := Row.of_own_slice (k := .i64) ho
            obtain ⟨b1, o1, rfl, hb1, hc1⟩ := hrow.at (i := m) (by have := HN.out; simpa [nats, this] using hm)
            have c1 := hc1 m (by have := HN.out; simpa [nats, this] using hm)
            obtain ⟨y, hy⟩ : ∃ y, (plc s q a k).getD m 0 = y := ⟨_, rfl⟩
            have hcy : (nats (plc s q a k)).getD m 0 = (y : Int) := by
              rw [← hy]
              have h9 : m < (plc s q a k).length := by have := HN.out; omega
              simp [nats, h9]
            rw [hcy] at c1
            have hlen : (candAll s q e l).length = N := by rw [HALL.out, List.length_reverse]; exact HN.out
            have hcand : (candAll s q e l).getD i 0 = y := by
              rw [← hy, HALL.out]
              have h9 := HN.out
              have h8 : m = (plc s q a k).length - 1 - i := by omega
              rw [h8]
              have h7 : i < (plc s q a k).length := by omega
              simp [List.getD_eq_getElem?_getD, List.getElem?_reverse h7]
            obtain ⟨fn, tmps, assign, body, hyy, hRR⟩ := HRD.out T i wr (by omega) hT2 hj
            rw [hcand] at hyy
            have HO := Lib.hid ho
            clear hc1 hrow hcy hlen hcand hy ho
            gi_wp2
            refine ⟨rfl, hRR.mono ?_⟩
            rintro e9 W3 (⟨rfl, hJ3, hK3⟩ | ⟨rfl, hJx3⟩)
            · have hs3 := hK3.size
              have ho3 := hK3.ownsRow HO.out (by omega) HTG.out
              have HO3 := Lib.hid ho3
              clear ho3 hyy
              gi_wp2
              go_roundw
              case rel => exact ⟨i + 1, m, (m : Int) - 1, by omega, by omega, by omega, by omega, rfl, hJ3, by omega, HO3.out⟩
              case measure => go_light; simp [intOf] <;> omega
            · clear hyy
              gi_wp2
              refine bodyPost_ret (results_none rfl _ _ _) rfl ?_
              exact ⟨⟨_, rfl⟩, .inr hJx3⟩
          · obtain rfl : j = 0 := by omega
            have hlen : (candAll s q e l).length = i := by rw [HALL.out, List.length_reverse, HN.out]; omega
            have HL := Lib.hid hlen
            clear hlen
            gi_wp2
            go_end0
            exact ⟨⟨_, rfl⟩, .inl ⟨T, by rw [HL.out]; exact hj⟩⟩
end Go.Proofs.Ytammacofhdbgcaa
namespace Go.Proofs.Ytammacofhdbgcaa
open Go.RowKit
set_option linter.unusedSimpArgs false
set_option linter.unusedVariables false
open Go.Shelf
attribute [local go_sem] Oper.semAt_some

theorem st_slice {P : Program} (w : World) (a : Addr) (b : Option Addr) (n c : Nat) (m : Mode) : (store a (.slice b n c) m).run P w = stored P w a (.slice b n c) m := run_store P w a _ m rfl
theorem own_slice {w : World} {base : Nat} {e : TypeId} {v : Value} {n : Nat} {xs : List Value} (h : w.ownsRow base e 1 v n xs) : ∃ a cap, v = .slice a n cap := by
  rcases h.2 with ⟨rfl, rfl⟩ | ⟨g, cap, cur, rfl, _⟩
  · exact ⟨none, 0, rfl⟩
  · exact ⟨_, cap, rfl⟩
theorem own_cap {w : World} {base : Nat} {e : TypeId} {a : Option Addr} {n m cap : Nat} {xs : List Value} (h : w.ownsRow base e 1 (.slice a m cap) n xs) : m ≤ cap := by
  rcases h.2 with ⟨h1, rfl⟩ | ⟨g, cap', cur, h1, _, _, h2, _⟩
  · simp at h1; omega
  · simp at h1; omega
theorem own_cells {w : World} {base : Nat} {e : TypeId} {v : Value} {n : Nat} {xs : List Value} (h : w.ownsRow base e 1 v n xs) : ∀ g, v.ownBlock = some g → ∃ c t q, w.heap[g]? = some (.cells c t q) := by
  intro g hg
  rcases h.2 with ⟨rfl, rfl⟩ | ⟨g', cap, cur, rfl, _, hh, _⟩
  · cases hg
  · cases hg; exact ⟨_, _, _, hh⟩
theorem grown_setCell (w : World) (a : Addr) (v : Value) : w.grownBy (w.setCell a v) (some a.block) :=
  ⟨rfl, rfl, rfl, by simp, fun k hk hne => by
    have : a.block ≠ k := fun e => hne (by rw [e])
    simp [World.setCell, Array.getElem?_modify, this]⟩
theorem keepsFrom_grown {B : Nat} {w w' : World} {row : Option Nat} (h : w.grownBy w' row) (hr : ∀ g, row = some g → ∃ c t q, w.heap[g]? = some (.cells c t q)) : KeepsFrom B w w' :=
  ⟨h.size, fun k o _ hk ho => by
    rw [h.block k (Array.getElem?_eq_some_iff.1 hk).1 (fun e => by
      obtain ⟨c, t, q, h2⟩ := hr k e.symm
      rw [hk] at h2
      cases h2
      simp [Obj.isCells] at ho)]
    exact hk⟩
theorem Row.keep {k : IntKind} {B : Nat} {w w' : World} {a : Option Addr} {xs : List Int} (h : Row k w a xs) (hk : Keep B w w') : Row k w' a xs := by
  rcases h with h | ⟨b, off, ha, hlt, hc⟩
  · exact .inl h
  · exact .inr ⟨b, off, ha, Nat.lt_of_lt_of_le hlt hk.size, fun i hi => hk.cell (hc i hi)⟩
theorem nats_len (l : List Nat) : (nats l).length = l.length := by simp [nats]
set_option maxHeartbeats 2000000 in
theorem cand_1 (s : ByteArray) (p e l most : Nat) (w : World) (h1 : s.size ≤ 1048576) (hpe : p ≤ e) (hes : e ≤ s.size) (hl1 : 10 ≤ l) (hl2 : l ≤ 27) (hm : most ≤ 64) (hc : wchk s.size p e l = 0) (L : List Nat) (HL : Hid (candAll s p e l = L)) :
    Calls Try.prog 53 #[.string s, .int .i64 (p : Int), .int .i64 (e : Int), .int .i64 (l : Int), .int .i64 (most : Int)] w fun e' w' => ∃ a cap, (L.take most).length ≤ cap ∧ e' = .returned (.tuple #[.slice a (L.take most).length cap, .int .i64 0]) ∧ Row .i64 w' a (nats (L.take most)) ∧ Below w.heap.size w w' := by
  have hl9 : s.size ≤ 9223372036854775807 := by omega
  have g1 : ¬ (most : Int) < 0 := by omega
  have g2 : ¬ (64 : Int) < (most : Int) := by omega
  refine calls_of_marks Try.func53 rfl ?_
  simp only [Try.ntmps53, List.size_toArray, List.length_cons, List.length_nil, Nat.reduceAdd, Nat.reduceSub, Array.replicate_succ, Array.replicate_zero, List.push_toArray, List.append_toArray, List.nil_append, List.cons_append]
  go_wp2_with (first | (go_at_call 51; refine (wcheck_p _ _ _ _ _ hl9).mono ?_; rintro e w1 ⟨rfl, hb⟩; have hsz := hb.size; (try simp at hsz); (first | (have hbl := blater2 HA (by first | exact Nat.le_refl _ | (simp; done) | (simp; omega)) hb; obtain ⟨hcc, hff, HA, hne, hne'⟩ := hbl) | (obtain ⟨hcc, hff, HA, hne, hne'⟩ := blater1 hb)); (try simp only [World.size_alloc, World.size_setCell] at HA)) | go_in)
  repeat' (first | (go_region <;> go_wp2_with (first | (go_at_call 51; refine (wcheck_p _ _ _ _ _ hl9).mono ?_; rintro e w1 ⟨rfl, hb⟩; have hsz := hb.size; (try simp at hsz); (first | (have hbl := blater2 HA (by first | exact Nat.le_refl _ | (simp; done) | (simp; omega)) hb; obtain ⟨hcc, hff, HA, hne, hne'⟩ := hbl) | (obtain ⟨hcc, hff, HA, hne, hne'⟩ := blater1 hb)); (try simp only [World.size_alloc, World.size_setCell] at HA)) | go_in)))
  obtain ⟨W0, hW0⟩ : ∃ W0, (((((w1.alloc (.cells #[.slice none 0 0] 37)).alloc (.cells #[.string s] 9)).alloc (.cells #[.int .i64 (p : Int)] 3)).alloc (.cells #[.int .i64 (e : Int)] 3)).alloc (.cells #[.int .i64 (l : Int)] 3)) = W0 := ⟨_, rfl⟩
  have B0 : Below w.heap.size w W0 := by
    rw [← hW0]
    repeat' (first | exact Below.refl _ _ | refine Below.drew ?_ | refine below_drewN ?_ _ | refine Below.alloc ?_ (by first | omega | (simp <;> omega)) _ | refine Below.setCell ?_ (by first | omega | (simp <;> omega)) _ | refine Below.trans ?_ (Below.mono (by assumption) (by first | omega | (simp <;> omega))))
  have B1 : Below (w.heap.size + 1) (w.alloc (.cells #[.int .i64 (most : Int)] 3)) W0 := by
    rw [← hW0]
    clear hW0
    rw [World.size_alloc] at hb
    refine ((((hb.alloc ?_ _).alloc ?_ _).alloc ?_ _).alloc ?_ _).alloc ?_ _ <;> (try simp) <;> omega
  have hw1 : w.heap.size + 1 ≤ w1.heap.size := by omega
  have xm : W0.cell? ⟨w.heap.size, 0, none⟩ = some (.int .i64 (most : Int)) := (B1.cell (p := ⟨w.heap.size, 0, none⟩) (by simp)).trans (by simp [go_sem])
  have xo : W0.cell? ⟨w1.heap.size, 0, none⟩ = some (.slice none 0 0) := by rw [← hW0]; simp [go_sem]
  have fo : W0.frozen? ⟨w1.heap.size, 0, none⟩ = false := by rw [← hW0]; simp [go_sem]
  have xs : W0.cell? ⟨w1.heap.size + 1, 0, none⟩ = some (.string s) := by rw [← hW0]; simp [go_sem]
  have xp : W0.cell? ⟨w1.heap.size + 2, 0, none⟩ = some (.int .i64 (p : Int)) := by rw [← hW0]; simp [go_sem]
  have xe : W0.cell? ⟨w1.heap.size + 3, 0, none⟩ = some (.int .i64 (e : Int)) := by rw [← hW0]; simp [go_sem]
  have xl : W0.cell? ⟨w1.heap.size + 4, 0, none⟩ = some (.int .i64 (l : Int)) := by rw [← hW0]; simp [go_sem]
  have S0 : w1.heap.size + 5 ≤ W0.heap.size := by rw [← hW0]; simp
  rw [hW0]
  clear hW0 hcc hff HA hne hne' hsz hb B1
  obtain ⟨i0, hinf, hz0, hz1, hz2⟩ := info_parts infoInt
  refine wp_rangeT_pure (gf := 103) (lb := #[.pointer (some ⟨w1.heap.size + 3, 0, none⟩), .pointer (some ⟨w1.heap.size + 2, 0, none⟩), .pointer (some ⟨w1.heap.size + 4, 0, none⟩), .pointer (some ⟨w1.heap.size + 1, 0, none⟩)]) rfl (enters_of Try.func103 (by kernel_rfl) rfl) L.length (fun i => #[.int .i64 (L.getD i 0 : Nat)]) (fun _ => rfl)
    (fun T i W => ∃ ad cap, i ≤ most ∧ W.cell? ⟨w1.heap.size, 0, none⟩ = some (.slice ad i cap) ∧ W.frozen? ⟨w1.heap.size, 0, none⟩ = false ∧ W.cell? ⟨w.heap.size, 0, none⟩ = some (.int .i64 (most : Int)) ∧ W.cell? ⟨w1.heap.size + 1, 0, none⟩ = some (.string s) ∧ W.cell? ⟨w1.heap.size + 2, 0, none⟩ = some (.int .i64 (p : Int)) ∧ W.cell? ⟨w1.heap.size + 3, 0, none⟩ = some (.int .i64 (e : Int)) ∧ W.cell? ⟨w1.heap.size + 4, 0, none⟩ = some (.int .i64 (l : Int)) ∧
      W.ownsRow W0.heap.size 3 1 (.slice ad i cap) i (pvals (L.take i)) ∧ (∀ g, (Value.slice ad i cap).ownBlock = some g → T ≤ g) ∧ Below w.heap.size w W ∧ W0.heap.size ≤ W.heap.size)
    (fun c W => c = .exit 0 ∧ ∃ ad cap, W.cell? ⟨w1.heap.size, 0, none⟩ = some (.slice ad most cap) ∧ W.ownsRow W0.heap.size 3 1 (.slice ad most cap) most (pvals (L.take most)) ∧ Below w.heap.size w W ∧ W0.heap.size ≤ W.heap.size)
    ?hI ?hIx ?h0 ?hround ?hiter ?hdone ?hstop
  case hI =>
    rintro T i X Y hk ⟨ad, cap, y1, y2, y3, y4, y5, y6, y7, y8, y9, y10, y11, y12⟩
    exact ⟨ad, cap, y1, hk.cell y2, (hk.frozen y2).trans y3, hk.cell y4, hk.cell y5, hk.cell y6, hk.cell y7, hk.cell y8, hk.ownsRow y9, y10, hk.below y11 (by omega) (by omega), Nat.le_trans y12 hk.size⟩
  case hIx =>
    rintro c X Y hk ⟨y1, ad, cap, y2, y9, y11, y12⟩
    exact ⟨y1, ad, cap, hk.cell y2, hk.ownsRow y9, hk.below y11 (by omega) (by omega), Nat.le_trans y12 hk.size⟩
  case h0 =>
    intro T
    exact ⟨none, 0, by omega, xo, fo, xm, xs, xp, xe, xl, World.ownsRow_nil _ _ _ _, by simp [Value.ownBlock], B0, Nat.le_refl _⟩
  case hround =>
    rintro l' T i W hi hT _ hl'
    obtain ⟨y, hy⟩ : ∃ y, L.getD i 0 = y := ⟨_, rfl⟩
    have htk : L.take (i + 1) = L.take i ++ [y] := by
      rw [List.take_succ_eq_append_getElem hi, ← hy]
      simp [hi]
    have HTK := Lib.hid htk
    simp only [hy]
    clear hy htk
    gi_wp2
    refine ⟨by first | rfl | trivial, ?_⟩
    rintro W2 hl2 hT2 ⟨ad, cap, y1, y2, y3, y4, y5, y6, y7, y8, y9, y10, y11, y12⟩
    have HY9 := Lib.hid y9
    have HY10 := Lib.hid y10
    clear y9 y10
    by_cases him : i = most
    · have e1 : ((i : Int) == (most : Int)) = true := by simp; omega
      have HIM := Lib.hid him
      clear him
      gi_wp2
      exact ⟨KeepsFrom.refl _ _, rfl, ad, cap, by rw [← HIM.out]; exact y2, by rw [← HIM.out]; exact HY9.out, y11, y12⟩
    · have e1 : ((i : Int) == (most : Int)) = false := by simp; omega
      gi_wp2_with (gi_at_builtin; refine wpListIn_append_own_at _ rfl _ _ 37 rfl W0.heap.size 3 i0 (.int .i64 0) 1 8 Try.underlying37 hinf hz0 hz1 hz2 rfl (by decide) _ _ _ rfl (HY9.out.alloc _) ⟨W2.heap.size, 0, none⟩ 1 1 [.int .i64 (y : Int)] rfl rfl (cell_one_new _ _ _) (one_int _ _) ?_ ?_ ?_ ?_; (unfold maxLen; omega); omega; (simp; omega); intro v' w4 ho' hg4 hnil hat; obtain ⟨ad', cap', rfl⟩ := own_slice ho'; have hb4 : Below W0.heap.size W2 w4 := ((Below.refl _ W2).alloc y12 _).grown hg4 (by simp; omega) (own_base HY9.out); have z2 := (hb4.cell (p := ⟨w1.heap.size, 0, none⟩) (by simp; omega)).trans y2; have z3 := (hb4.frozen (p := ⟨w1.heap.size, 0, none⟩) (by simp; omega)).trans y3)
      have hs4 := hg4.size
      simp at hs4
      refine ⟨((keepsFrom_of_below ((Below.refl _ W2).alloc (Nat.le_refl _) _)).trans (keepsFrom_grown hg4 (own_cells (HY9.out.alloc _)))).trans ((KeepsOthers.setCell _ _ _).from _), ⟨ad', cap', by omega, by simp [go_sem, z2], by simp [go_sem, z3], ?_, ?_, ?_, ?_, ?_, ?_, ?_, ?_, ?_⟩, ?_⟩
      · have := (hb4.cell (p := ⟨w.heap.size, 0, none⟩) (by simp; omega)).trans y4
        simp [go_sem, this, show w1.heap.size ≠ w.heap.size by omega]
      · have := (hb4.cell (p := ⟨w1.heap.size + 1, 0, none⟩) (by simp; omega)).trans y5
        simp [go_sem, this]
      · have := (hb4.cell (p := ⟨w1.heap.size + 2, 0, none⟩) (by simp; omega)).trans y6
        simp [go_sem, this]
      · have := (hb4.cell (p := ⟨w1.heap.size + 3, 0, none⟩) (by simp; omega)).trans y7
        simp [go_sem, this]
      · have := (hb4.cell (p := ⟨w1.heap.size + 4, 0, none⟩) (by simp; omega)).trans y8
        simp [go_sem, this]
      · refine World.ownsRow.kept ?_ (grown_setCell _ _ _) (.inr ?_)
        · rw [HTK.out]
          simpa [pvals, nats] using ho'
        · intro h
          have := own_base ho' _ h
          simp at this
          omega
      · intro g hg
        rcases hat with h | h
        · exact HY10.out g (h.symm.trans hg)
        · have h5 := h.symm.trans hg
          simp at h5
          omega
      · exact (y11.trans (hb4.mono (by have := y11.size; omega))).setCell (by simp; omega) _
      · simp; omega
      · exact ((KeptTo.of_below ((Below.refl _ W2).alloc (Nat.le_refl _) _)).trans (KeptTo.grown hg4 HY10.out)).trans (KeptTo.setCell _ _ (.inl (by simp; omega)))
  case hiter =>
    intro l' J Jx W hb hst hJI _ hr hj
    rw [← HL.out]
    have hbs := hb.size
    refine cand_iter s p e l (w1.heap.size + 3) (w1.heap.size + 2) (w1.heap.size + 4) (w1.heap.size + 1) l' W0.heap.size h1 hpe hes hl1 hl2 J Jx W (by omega) (by omega) (by omega) (by omega) (by omega) hst (fun T i X h => ?_) (fun T i X hi hT hX => ?_) hj
    · obtain ⟨ad, cap, y1, y2, y3, y4, y5, y6, y7, y8, _⟩ := hJI T i X h
      exact ⟨y7, y6, y8, y5⟩
    · rw [HL.out] at hi ⊢
      exact hr T i X hi hT hX
  case hdone =>
    rintro T D W hD ⟨ad, cap, y1, y2, y3, y4, y5, y6, y7, y8, y9, y10, y11, y12⟩ hdf
    have HY9 := Lib.hid y9
    clear y9 y10
    all_goals go_wp2
    all_goals refine ⟨by simp, .inl ⟨_, _, rfl, run_takeDeferred (by repeat' (first | exact hdf | apply setCell_deferred)), ?_⟩⟩
    all_goals go_light
    have e5 : L.take most = L.take L.length := by rw [List.take_of_length_le y1, List.take_of_length_le (Nat.le_refl _)]
    have e6 : (L.take most).length = L.length := by rw [e5]; simp
    refine ⟨_, results_tmp2 rfl _ _ _, ad, cap, by rw [e6]; exact own_cap HY9.out, by rw [e6]; rfl, ?_, below_putObj y11 (by omega) _⟩
    have hrow := (Row.of_own_slice (k := .i64) HY9.out).keep (Keep.putObj (B := 0) (.deferred none) (by omega) hdf rfl)
    rw [e5]
    exact hrow
  case hstop =>
    rintro D c W hD ⟨rfl, ad, cap, y2, y9, y11, y12⟩ hdf
    have HY9 := Lib.hid y9
    clear y9
    all_goals go_wp2
    all_goals refine ⟨by simp, .inl ⟨_, _, rfl, run_takeDeferred (by repeat' (first | exact hdf | apply setCell_deferred)), ?_⟩⟩
    all_goals go_light
    have e6 : (L.take most).length = most := by
      have := HY9.out.1
      simpa [pvals, nats] using this
    refine ⟨_, results_tmp2 rfl _ _ _, ad, cap, by rw [e6]; exact own_cap HY9.out, by rw [e6]; rfl, ?_, below_putObj y11 (by omega) _⟩
    exact (Row.of_own_slice (k := .i64) HY9.out).keep (Keep.putObj (B := 0) (.deferred none) (by omega) hdf rfl)
end Go.Proofs.Ytammacofhdbgcaa
namespace Go.Proofs.Ytammacofhdbgcaa
open Go.RowKit
set_option linter.unusedSimpArgs false
set_option linter.unusedVariables false
attribute [local go_sem] Oper.semAt_some

/-- What hands back places and an error: the slice leads to these numbers. -/
def CandPost (R : List Nat × Int) (w : World) (e : Ending) (w' : World) : Prop :=
  ∃ pa ca, R.1.length ≤ ca ∧ e = .returned (.tuple #[.slice pa R.1.length ca, .int .i64 R.2]) ∧ Row .i64 w' pa (nats R.1) ∧ Below w.heap.size w w'
/-- The candidates up to k places back. -/
def back (s : ByteArray) (p k : Nat) : List Nat := (plc s p (p - k) k).reverse
theorem back_succ (s : ByteArray) (p k : Nat) (h : k < p) : back s p (k + 1) = back s p k ++ (if fours s (p - (k + 1)) = fours s p then [p - (k + 1)] else []) := back_step s p k h
theorem back_more (s : ByteArray) (p k : Nat) : ∀ m, k + m ≤ p → ∃ r, back s p (k + m) = back s p k ++ r := by
  intro m
  induction m with
  | zero => intro _; exact ⟨[], by simp⟩
  | succ m ih =>
    intro h
    obtain ⟨r, hr⟩ := ih (by omega)
    have := back_succ s p (k + m) (by omega)
    rw [show k + m + 1 = k + (m + 1) by omega] at this
    rw [this, hr]
    exact ⟨_, List.append_assoc _ _ _⟩
theorem cands_stop (s : ByteArray) (p e l most k : Nat) (he : ¬ e - p < 4) (hk : k ≤ wback p l) (hl : (back s p k).length ≤ most) (h : k = wback p l ∨ (back s p k).length = most) : cands s p e l most = back s p k := by
  have hw : wback p l ≤ p := by unfold wback; omega
  unfold cands
  rw [if_neg he]
  obtain ⟨r, hr⟩ := back_more s p k (wback p l - k) (by omega)
  rw [show k + (wback p l - k) = wback p l by omega] at hr
  change (back s p (wback p l)).take most = _
  rcases h with h | h
  · subst h
    rw [List.take_of_length_le hl]
  · rw [hr]
    exact take_app_full _ _ _ h
theorem byte_fours (s : ByteArray) (q p : Nat) (hq : q + 4 ≤ s.size) (hp : p + 4 ≤ s.size) : (s.extract q (q + 4) = s.extract p (p + 4)) ↔ fours s q = fours s p := by
  have e1 := ext4 s q hq
  have e2 := ext4 s p hp
  rw [← key4_iff]
  unfold key4
  constructor
  · intro h
    rw [← e1, ← e2, h]
  · intro h
    have h2 : b4 s q = b4 s p := by simpa using h
    rw [← e1, ← e2] at h2
    have h3 : (s.extract q (q + 4)).data.toList = (s.extract p (p + 4)).data.toList := by
      refine (List.map_inj_right ?_).1 h2
      intro a b hab
      simp at hab
      exact UInt8.toNat_inj.1 (by omega)
    have h4 : (s.extract q (q + 4)).data = (s.extract p (p + 4)).data := Array.toList_inj.1 h3
    exact ByteArray.ext h4
theorem beq_bytes (a b : ByteArray) : (a.toList == b.toList) = decide (a = b) := by
  rw [Bool.eq_iff_iff, ByteArray.toList_eq, ByteArray.toList_eq]
  simp [Array.toList_inj, ByteArray.ext_iff]

set_option maxRecDepth 100000 in
set_option maxHeartbeats 2000000 in
theorem rcand_1 (s : ByteArray) (p e l most : Nat) (w : World) (h1 : s.size ≤ 1048576) (hpe : p ≤ e) (hes : e ≤ s.size) (hl1 : 10 ≤ l) (hl2 : l ≤ 27) (hm : most ≤ 64) (hc : wchk s.size p e l = 0) (hep : ¬ e - p < 4) (L : List Nat) (HL : Hid (cands s p e l most = L)) :
    Calls Try.prog 57 #[.string s, .int .i64 (p : Int), .int .i64 (e : Int), .int .i64 (l : Int), .int .i64 (most : Int)] w (CandPost (L, 0) w) := by
  have hl9 : s.size ≤ 9223372036854775807 := by omega
  have g1 : ¬ (most : Int) < 0 := by omega
  have g2 : ¬ (64 : Int) < (most : Int) := by omega
  have g3 : ¬ (e : Int) - (p : Int) < 4 := by omega
  have hk := pow_le (l := (l : Int)) (by omega)
  rw [Int.toNat_natCast] at hk
  have hwb := wback_int p l
  obtain ⟨P, hP⟩ : ∃ P, (2 : Int) ^ l = P := ⟨_, rfl⟩
  rw [hP] at hk hwb
  have HWB := Lib.hid hwb
  have HEP := Lib.hid hep
  clear hwb hep
  obtain ⟨k1, k2⟩ := hk
  obtain ⟨i0, hinf, hz0, hz1, hz2⟩ := info_parts infoInt
  go_enter Try.func57, Try.ntmps57
  go_wp2_with ((go_at_call 55; refine (rwcheck_p _ _ _ _ _ hl9).mono ?_; rintro e w1 ⟨rfl, hb⟩; have hsz := hb.size; (try simp at hsz)))
  have hlo : wback p l ≤ p := by unfold wback; omega
  clear hsz
  go_loopw [13, 14] (fun v i wr => ∃ (k j n : Nat) (x : Int) (ad : Option Addr) (cap : Nat), k + j ≤ p ∧ p ≤ k + j ∧ x + 1 ≤ j ∧ j ≤ x + 1 ∧ i = .int .i64 x ∧ k ≤ wback p l ∧ v = .slice ad n cap ∧ n ≤ most ∧ Hid ((back s p k).length = n) ∧ wr.ownsRow w.heap.size 3 1 (.slice ad n cap) n (pvals (back s p k)) ∧ Below w.heap.size w wr) (fun _ i _ => (intOf i + 1).toNat)
  case atStart => exact ⟨0, p, 0, (p : Int) - 1, none, 0, by omega, by omega, by omega, by omega, rfl, by omega, rfl, by omega, rfl, World.ownsRow_nil _ _ _ _, hb⟩
  case round =>
    clear hb
    obtain ⟨k, j, n, x, ad, cap, e1, e2, e3, e4, rfl, hk, rfl, hn, HN, ho, hb⟩ := hrel
    have HO := Lib.hid ho
    clear ho
    have hwb := HWB.out
    by_cases hgo : k < wback p l ∧ n < most
    · obtain ⟨hk1, hn1⟩ := hgo
      have f1 : 0 ≤ x := by omega
      have f2 : (p : Int) - x ≤ P := by omega
      have f3 : (n : Int) < (most : Int) := by omega
      obtain ⟨q, rfl⟩ : ∃ q : Nat, x = (q : Int) := ⟨x.toNat, by omega⟩
      have hqk : q = p - (k + 1) := by omega
      have hqp : p + 4 ≤ s.size := by have := HEP.out; omega
      have hbs := back_succ s p k (by omega)
      rw [← hqk] at hbs
      have HBS := Lib.hid hbs
      have hfb := byte_fours s q p (by omega) (by omega)
      have i1 : (0 : Int) ≤ (q : Int) + 4 := by omega
      have i2 : (q : Int) + 4 ≤ (s.size : Int) := by omega
      have i3 : (q : Int) ≤ (q : Int) + 4 := by omega
      have i4 : (0 : Int) ≤ (p : Int) + 4 := by omega
      have i5 : (p : Int) + 4 ≤ (s.size : Int) := by omega
      have i6 : (p : Int) ≤ (p : Int) + 4 := by omega
      have i7 : (0 : Int) ≤ (p : Int) := by omega
      have t1 : ((q : Int) + 4).toNat = q + 4 := by omega
      have t2 : ((p : Int) + 4).toNat = p + 4 := by omega
      clear hwb hqk hbs
      by_cases hff : fours s q = fours s p
      · have b1 : ((s.extract q (q + 4)).toList == (s.extract p (p + 4)).toList) = true := by rw [beq_bytes]; simpa using hfb.2 hff
        have HFF := Lib.hid hff
        clear hff hfb
        go_wp2
        go_quiet (fail)
        go_wp2_with (at_builtin; refine wpList_append_own_at _ rfl _ _ 37 rfl w.heap.size 3 i0 (.int .i64 0) 1 8 Try.underlying37 hinf hz0 hz1 hz2 rfl (by decide) _ _ _ rfl ((ownsRow_later HO.out (below_drewN (Below.refl _ _) nq)).alloc _) ⟨wr.heap.size, 0, none⟩ 1 1 [.int .i64 (q : Int)] rfl rfl (cell_one_new _ _ _) (one_int _ _) ?_ ?_ ?_ ?_; (unfold maxLen; omega); omega; (have := hb.size; simp; omega); intro v' w4 ho' hg4 hnil hat; obtain ⟨ad', cap', rfl⟩ := own_slice ho')
        go_roundw
        case rel =>
          refine ⟨k + 1, q, n + 1, (q : Int) - 1, ad', cap', by omega, by omega, by omega, by omega, rfl, by omega, rfl, by omega, ?_, ?_, ?_⟩
          · rw [HBS.out, if_pos HFF.out]
            have := HN.out
            exact Lib.hid (by simp [this])
          · rw [HBS.out, if_pos HFF.out]
            simpa [pvals, nats] using ho'
          · exact (((hb.trans (below_drewN (Below.refl _ _) nq)).alloc hb.size _).grown hg4 (by have := hb.size; simp; omega) (fun g h => by have := own_base HO.out g h; omega))
        case measure => go_light; simp [intOf] <;> omega
      · have b1 : ((s.extract q (q + 4)).toList == (s.extract p (p + 4)).toList) = false := by rw [beq_bytes]; simpa using fun h => hff (hfb.1 h)
        have HFF := Lib.hid hff
        clear hff hfb
        go_wp2
        go_quiet (fail)
        go_wp2
        go_roundw
        case rel =>
          refine ⟨k + 1, q, n, (q : Int) - 1, ad, cap, by omega, by omega, by omega, by omega, rfl, by omega, rfl, by omega, ?_, ?_, below_drewN hb _⟩
          · rw [HBS.out, if_neg HFF.out]
            have := HN.out
            exact Lib.hid (by simp [this])
          · rw [HBS.out, if_neg HFF.out]
            simpa using ownsRow_later HO.out (below_drewN (Below.refl _ _) nq)
        case measure => go_light; simp [intOf] <;> omega
    · have HS := Lib.hid (cands_stop s p e l most k HEP.out hk (by rw [HN.out]; exact hn) (by rw [HN.out]; omega))
      have hx : x < 0 ∨ (0 ≤ x ∧ P < (p : Int) - x) ∨ (0 ≤ x ∧ (p : Int) - x ≤ P ∧ ¬ (n : Int) < (most : Int)) := by omega
      clear hgo hwb
      rcases hx with f1 | ⟨f1, f2⟩ | ⟨f1, f2, f3⟩
      all_goals
        go_wp2
        go_light
        refine bodyPost_ret (results_tmp2 rfl _ _ _) rfl ⟨ad, cap, ?_, ?_, ?_, hb⟩
        · have h1 := HS.out
          rw [HL.out] at h1
          have h2 := HN.out
          rw [← h1] at h2
          show L.length ≤ cap
          rw [h2]
          exact own_cap HO.out
        · have h1 := HS.out
          rw [HL.out] at h1
          have h2 := HN.out
          rw [← h1] at h2
          rw [h2]
          rfl
        · have h1 := HS.out
          rw [HL.out] at h1
          rw [h1]
          exact Row.of_own_slice (k := .i64) HO.out
end Go.Proofs.Ytammacofhdbgcaa
namespace Go.Proofs.Ytammacofhdbgcaa
open Go.RowKit
set_option linter.unusedSimpArgs false
set_option linter.unusedVariables false
attribute [local go_sem] Oper.semAt_some

/-- What Candidates returns. -/
def wcandR (s : ByteArray) (p e l most : Int) : List Nat × Int := if wchk s.size p e l = 0 then (if 0 ≤ most ∧ most ≤ 64 then (cands s p.toNat e.toNat l.toNat most.toNat, 0) else ([], 2)) else ([], wchk s.size p e l)
/-- What Nearest returns. -/
def wnearR (s : ByteArray) (p e l : Int) : Int × Bool × Int := match (wcandR s p e l 1).1 with
  | [] => (0, false, (wcandR s p e l 1).2)
  | x :: _ => ((x : Int), true, 0)
theorem wcandR_err {s : ByteArray} {p e l most : Int} (h : (wcandR s p e l most).1 ≠ []) : (wcandR s p e l most).2 = 0 := by
  unfold wcandR at h ⊢
  split <;> (try split) <;> simp_all

set_option maxHeartbeats 1000000 in
theorem cand_p (s : ByteArray) (p e l most : Int) (w : World) (hl : s.size ≤ 9223372036854775807) :
    Calls Try.prog 53 #[.string s, .int .i64 p, .int .i64 e, .int .i64 l, .int .i64 most] w (CandPost (wcandR s p e l most) w) := by
  unfold wcandR
  have q1 := fun w => wcheck_p s p e l w hl
  by_cases hc : wchk s.size p e l = 0
  · rw [if_pos hc]
    obtain ⟨h1, h2, h3, h4, h5, h6⟩ := wchk_ok hc
    by_cases hm : 0 ≤ most ∧ most ≤ 64
    · rw [if_pos hm]
      obtain ⟨p, rfl⟩ : ∃ n : Nat, p = (n : Int) := ⟨p.toNat, by omega⟩
      obtain ⟨e, rfl⟩ : ∃ n : Nat, e = (n : Int) := ⟨e.toNat, by omega⟩
      obtain ⟨l, rfl⟩ : ∃ n : Nat, l = (n : Int) := ⟨l.toNat, by omega⟩
      obtain ⟨most, rfl⟩ : ∃ n : Nat, most = (n : Int) := ⟨most.toNat, by omega⟩
      simp only [Int.toNat_natCast]
      have e5 : cands s p e l most = (candAll s p e l).take most := by
        unfold cands candAll
        split <;> simp
      rw [e5]
      refine (cand_1 s p e l most w h1 (by omega) (by omega) (by omega) (by omega) (by omega) hc _ rfl).mono ?_
      rintro e' w' ⟨a, cap, h6, h7, h8, h9⟩
      exact ⟨a, cap, h6, h7, h8, h9⟩
    · rw [if_neg hm]
      rw [hc] at q1
      have hm2 : most < 0 ∨ (¬ most < 0 ∧ 64 < most) := by omega
      clear hc h1 h2 h3 h4 h5 h6 hm
      rcases hm2 with g1 | ⟨g1, g2⟩
      all_goals
        refine calls_of_marks Try.func53 rfl ?_
        simp only [Try.ntmps53, List.size_toArray, List.length_cons, List.length_nil, Nat.reduceAdd, Nat.reduceSub, Array.replicate_succ, Array.replicate_zero, List.push_toArray, List.append_toArray, List.nil_append, List.cons_append]
        go_wp2_with (first | (go_at_call 51; refine (q1 _).mono ?_; rintro e w1 ⟨rfl, hb⟩; have hsz := hb.size; (try simp at hsz); (first | (have hbl := blater2 HA (by first | exact Nat.le_refl _ | (simp; done) | (simp; omega)) hb; obtain ⟨hcc, hff, HA, hne, hne'⟩ := hbl) | (obtain ⟨hcc, hff, HA, hne, hne'⟩ := blater1 hb)); (try simp only [World.size_alloc, World.size_setCell] at HA)) | go_in)
        repeat' (first | (go_region <;> go_wp2_with (first | (go_at_call 51; refine (q1 _).mono ?_; rintro e w1 ⟨rfl, hb⟩; have hsz := hb.size; (try simp at hsz); (first | (have hbl := blater2 HA (by first | exact Nat.le_refl _ | (simp; done) | (simp; omega)) hb; obtain ⟨hcc, hff, HA, hne, hne'⟩ := hbl) | (obtain ⟨hcc, hff, HA, hne, hne'⟩ := blater1 hb)); (try simp only [World.size_alloc, World.size_setCell] at HA)) | go_in)))
        all_goals go_light
        all_goals (try simp only [beq_iff_eq, beq_eq_false_iff_ne, bne_iff_ne, bne_eq_false_iff_eq, ne_eq] at *)
        all_goals (refine ⟨_, results_tmp2 rfl _ _ _, ?_⟩; exact ⟨none, 0, by simp, by simp only [Array.getD_eq_getD_getElem?]; simp [*], .inl rfl, by repeat' (first | exact Below.refl _ _ | refine Below.drew ?_ | refine below_drewN ?_ _ | refine Below.alloc ?_ (by first | omega | (simp <;> omega)) _ | refine Below.setCell ?_ (by first | omega | (simp <;> omega)) _ | refine Below.trans ?_ (Below.mono (by assumption) (by first | omega | (simp <;> omega))))⟩)
  · rw [if_neg hc]
    obtain ⟨E, hE⟩ : ∃ E, wchk s.size p e l = E := ⟨_, rfl⟩
    rw [hE] at q1 hc ⊢
    have h0 : (E != 0) = true := by simpa using hc
    have h00 : (E == 0) = false := by simpa using hc
    clear hc hE
    refine calls_of_marks Try.func53 rfl ?_
    simp only [Try.ntmps53, List.size_toArray, List.length_cons, List.length_nil, Nat.reduceAdd, Nat.reduceSub, Array.replicate_succ, Array.replicate_zero, List.push_toArray, List.append_toArray, List.nil_append, List.cons_append]
    go_wp2_with (first | (go_at_call 51; refine (q1 _).mono ?_; rintro e w1 ⟨rfl, hb⟩; have hsz := hb.size; (try simp at hsz); (first | (have hbl := blater2 HA (by first | exact Nat.le_refl _ | (simp; done) | (simp; omega)) hb; obtain ⟨hcc, hff, HA, hne, hne'⟩ := hbl) | (obtain ⟨hcc, hff, HA, hne, hne'⟩ := blater1 hb)); (try simp only [World.size_alloc, World.size_setCell] at HA)) | go_in)
    repeat' (first | (go_region <;> go_wp2_with (first | (go_at_call 51; refine (q1 _).mono ?_; rintro e w1 ⟨rfl, hb⟩; have hsz := hb.size; (try simp at hsz); (first | (have hbl := blater2 HA (by first | exact Nat.le_refl _ | (simp; done) | (simp; omega)) hb; obtain ⟨hcc, hff, HA, hne, hne'⟩ := hbl) | (obtain ⟨hcc, hff, HA, hne, hne'⟩ := blater1 hb)); (try simp only [World.size_alloc, World.size_setCell] at HA)) | go_in)))
    all_goals go_light
    all_goals (try simp only [beq_iff_eq, beq_eq_false_iff_ne, bne_iff_ne, bne_eq_false_iff_eq, ne_eq] at *)
    all_goals (refine ⟨_, results_tmp2 rfl _ _ _, ?_⟩; exact ⟨none, 0, by simp, by simp only [Array.getD_eq_getD_getElem?]; simp [*], .inl rfl, by repeat' (first | exact Below.refl _ _ | refine Below.drew ?_ | refine below_drewN ?_ _ | refine Below.alloc ?_ (by first | omega | (simp <;> omega)) _ | refine Below.setCell ?_ (by first | omega | (simp <;> omega)) _ | refine Below.trans ?_ (Below.mono (by assumption) (by first | omega | (simp <;> omega))))⟩)

set_option maxHeartbeats 1000000 in
theorem rcand_p (s : ByteArray) (p e l most : Int) (w : World) (hl : s.size ≤ 9223372036854775807) :
    Calls Try.prog 57 #[.string s, .int .i64 p, .int .i64 e, .int .i64 l, .int .i64 most] w (CandPost (wcandR s p e l most) w) := by
  unfold wcandR
  have q1 := fun w => rwcheck_p s p e l w hl
  by_cases hc : wchk s.size p e l = 0
  · rw [if_pos hc]
    obtain ⟨h1, h2, h3, h4, h5, h6⟩ := wchk_ok hc
    by_cases hm : 0 ≤ most ∧ most ≤ 64
    · rw [if_pos hm]
      obtain ⟨p, rfl⟩ : ∃ n : Nat, p = (n : Int) := ⟨p.toNat, by omega⟩
      obtain ⟨e, rfl⟩ : ∃ n : Nat, e = (n : Int) := ⟨e.toNat, by omega⟩
      obtain ⟨l, rfl⟩ : ∃ n : Nat, l = (n : Int) := ⟨l.toNat, by omega⟩
      obtain ⟨most, rfl⟩ : ∃ n : Nat, most = (n : Int) := ⟨most.toNat, by omega⟩
      simp only [Int.toNat_natCast]
      by_cases hep : e - p < 4
      · have e5 : cands s p e l most = [] := by unfold cands; rw [if_pos hep]
        rw [e5]
        have g1 : ¬ (most : Int) < 0 := by omega
        have g2 : ¬ (64 : Int) < (most : Int) := by omega
        have g3 : (e : Int) - (p : Int) < 4 := by omega
        rw [hc] at q1
        clear hc e5 hep
        go_enter Try.func57, Try.ntmps57
        go_wp2_with ((go_at_call 55; refine (q1 _).mono ?_; rintro e w1 ⟨rfl, hb⟩; have hsz := hb.size; (try simp at hsz)))
        repeat' (first | (go_region <;> go_wp2_with ((go_at_call 55; refine (q1 _).mono ?_; rintro e w1 ⟨rfl, hb⟩; have hsz := hb.size; (try simp at hsz)))))
        all_goals go_light
        all_goals (try simp only [beq_iff_eq, beq_eq_false_iff_ne, bne_iff_ne, bne_eq_false_iff_eq, ne_eq] at *)
        all_goals (refine bodyPost_ret (v := .tuple #[.slice none 0 0, .int .i64 0]) (by simp [results, Try.results57, go_sem, *]) rfl ?_; exact ⟨none, 0, by simp, rfl, .inl rfl, by repeat' (first | exact Below.refl _ _ | refine Below.drew ?_ | refine below_drewN ?_ _ | refine Below.alloc ?_ (by first | omega | (simp <;> omega)) _ | refine Below.setCell ?_ (by first | omega | (simp <;> omega)) _ | refine Below.trans ?_ (Below.mono (by assumption) (by first | omega | (simp <;> omega))))⟩)
      · exact rcand_1 s p e l most w h1 (by omega) (by omega) (by omega) (by omega) (by omega) hc hep _ rfl
    · rw [if_neg hm]
      rw [hc] at q1
      have hm2 : most < 0 ∨ (¬ most < 0 ∧ 64 < most) := by omega
      clear hc h1 h2 h3 h4 h5 h6 hm
      rcases hm2 with g1 | ⟨g1, g2⟩
      all_goals
        go_enter Try.func57, Try.ntmps57
        go_wp2_with ((go_at_call 55; refine (q1 _).mono ?_; rintro e w1 ⟨rfl, hb⟩; have hsz := hb.size; (try simp at hsz)))
        repeat' (first | (go_region <;> go_wp2_with ((go_at_call 55; refine (q1 _).mono ?_; rintro e w1 ⟨rfl, hb⟩; have hsz := hb.size; (try simp at hsz)))))
        all_goals go_light
        all_goals (try simp only [beq_iff_eq, beq_eq_false_iff_ne, bne_iff_ne, bne_eq_false_iff_eq, ne_eq] at *)
        all_goals (refine bodyPost_ret (v := .tuple #[.slice none 0 0, .int .i64 2]) (by simp [results, Try.results57, go_sem, *]) rfl ?_; exact ⟨none, 0, by simp, rfl, .inl rfl, by repeat' (first | exact Below.refl _ _ | refine Below.drew ?_ | refine below_drewN ?_ _ | refine Below.alloc ?_ (by first | omega | (simp <;> omega)) _ | refine Below.setCell ?_ (by first | omega | (simp <;> omega)) _ | refine Below.trans ?_ (Below.mono (by assumption) (by first | omega | (simp <;> omega))))⟩)
  · rw [if_neg hc]
    obtain ⟨E, hE⟩ : ∃ E, wchk s.size p e l = E := ⟨_, rfl⟩
    rw [hE] at q1 hc ⊢
    have h0 : (E != 0) = true := by simpa using hc
    have h00 : (E == 0) = false := by simpa using hc
    clear hc hE
    go_enter Try.func57, Try.ntmps57
    go_wp2_with ((go_at_call 55; refine (q1 _).mono ?_; rintro e w1 ⟨rfl, hb⟩; have hsz := hb.size; (try simp at hsz)))
    repeat' (first | (go_region <;> go_wp2_with ((go_at_call 55; refine (q1 _).mono ?_; rintro e w1 ⟨rfl, hb⟩; have hsz := hb.size; (try simp at hsz)))))
    all_goals go_light
    all_goals (try simp only [beq_iff_eq, beq_eq_false_iff_ne, bne_iff_ne, bne_eq_false_iff_eq, ne_eq] at *)
    all_goals (refine bodyPost_ret (v := .tuple #[.slice none 0 0, .int .i64 E]) (by simp [results, Try.results57, go_sem, *]) rfl ?_; exact ⟨none, 0, by simp, rfl, .inl rfl, by repeat' (first | exact Below.refl _ _ | refine Below.drew ?_ | refine below_drewN ?_ _ | refine Below.alloc ?_ (by first | omega | (simp <;> omega)) _ | refine Below.setCell ?_ (by first | omega | (simp <;> omega)) _ | refine Below.trans ?_ (Below.mono (by assumption) (by first | omega | (simp <;> omega))))⟩)

end Go.Proofs.Ytammacofhdbgcaa
namespace Go.Proofs.Ytammacofhdbgcaa
open Go.RowKit
set_option linter.unusedSimpArgs false
set_option linter.unusedVariables false
theorem cmn_le (s : ByteArray) : ∀ f q p, cmn s f q p ≤ f := by
  intro f
  induction f with
  | zero => intro q p; simp [cmn]
  | succ f ih =>
    intro q p
    unfold cmn
    split
    · have := ih (q + 1) (p + 1); omega
    · omega
theorem cmn_four (s : ByteArray) (f q p : Nat) : 4 ≤ cmn s f q p ↔ 4 ≤ f ∧ fours s q = fours s p := by
  rcases Nat.lt_or_ge f 4 with h | h
  · constructor
    · intro h2
      have := cmn_le s f q p
      omega
    · rintro ⟨h1, _⟩
      omega
  · obtain ⟨g, rfl⟩ : ∃ g, f = g + 4 := ⟨f - 4, by omega⟩
    simp only [cmn, fours, List.cons.injEq, and_true]
    by_cases h0 : byt s q = byt s p
    · by_cases h1 : byt s (q + 1) = byt s (p + 1)
      · by_cases h2 : byt s (q + 2) = byt s (p + 2)
        · by_cases h3 : byt s (q + 3) = byt s (p + 3)
          · simp only [h0, h1, if_true, show q + 1 + 1 = q + 2 by omega, show p + 1 + 1 = p + 2 by omega, h2, show q + 2 + 1 = q + 3 by omega, show p + 2 + 1 = p + 3 by omega, h3]
            simp
            omega
          · simp only [h0, h1, if_true, show q + 1 + 1 = q + 2 by omega, show p + 1 + 1 = p + 2 by omega, h2, show q + 2 + 1 = q + 3 by omega, show p + 2 + 1 = p + 3 by omega, h3, if_false]
            simp
        · simp only [h0, h1, if_true, show q + 1 + 1 = q + 2 by omega, show p + 1 + 1 = p + 2 by omega, h2, if_false]
          simp
      · simp only [h0, h1, if_true, if_false]
        simp
    · simp only [h0, if_false]
      simp
/-- The candidates up to j places back, none in too little room. -/
def backE (s : ByteArray) (p e j : Nat) : List Nat := if e - p < 4 then [] else back s p j
theorem backE_zero (s : ByteArray) (p e : Nat) : backE s p e 0 = [] := by unfold backE; split <;> rfl
theorem backE_succ (s : ByteArray) (p e j : Nat) (h : j < p) : backE s p e (j + 1) = backE s p e j ++ (if 4 ≤ cmn s (e - p) (p - (j + 1)) p then [p - (j + 1)] else []) := by
  unfold backE
  by_cases he : e - p < 4
  · rw [if_pos he, if_pos he, if_neg (by rw [cmn_four]; omega)]
    rfl
  · rw [if_neg he, if_neg he, back_succ s p j h]
    congr 1
    by_cases hf : fours s (p - (j + 1)) = fours s p
    · rw [if_pos hf, if_pos ((cmn_four _ _ _ _).2 ⟨by omega, hf⟩)]
    · rw [if_neg hf, if_neg (fun h2 => hf ((cmn_four _ _ _ _).1 h2).2)]
theorem backE_more (s : ByteArray) (p e k : Nat) : ∀ m, k + m ≤ p → ∃ r, backE s p e (k + m) = backE s p e k ++ r := by
  intro m hm
  unfold backE
  split
  · exact ⟨[], rfl⟩
  · exact back_more s p k m hm
theorem cands_all (s : ByteArray) (p e m : Nat) (h : p ≤ 1024) : cands s p e 10 m = (backE s p e p).take m := by
  have hw : wback p 10 = p := by unfold wback; omega
  unfold cands backE back
  rw [hw]
  split
  · simp
  · simp
theorem back_len_le (s : ByteArray) (p j : Nat) : (back s p j).length ≤ j := by
  unfold back plc
  rw [List.length_reverse]
  exact Nat.le_trans (List.length_filter_le _ _) (by simp)
/-- The candidates found so far are the first ones. -/
theorem backE_get (s : ByteArray) (p e j : Nat) (h : j < p) (hc : 4 ≤ cmn s (e - p) (p - (j + 1)) p) : (backE s p e p)[(backE s p e j).length]? = some (p - (j + 1)) := by
  obtain ⟨r, hr⟩ := backE_more s p e (j + 1) (p - (j + 1)) (by omega)
  rw [show j + 1 + (p - (j + 1)) = p by omega, backE_succ s p e j h, if_pos hc] at hr
  rw [hr]
  simp
/-! Bytes -/
theorem byt_eq (s : ByteArray) (i : Nat) : byt s i = (s.data.toList.getD i 0).toNat := by
  unfold byt
  by_cases h : i < s.size
  · rw [dif_pos h]
    have h2 : i < s.data.toList.length := by simpa using h
    rw [List.getD_eq_getElem?_getD, List.getElem?_eq_getElem h2]
    rfl
  · rw [dif_neg h]
    have h2 : ¬ i < s.data.toList.length := by simpa using h
    rw [List.getD_eq_getElem?_getD, List.getElem?_eq_none (by omega)]
    rfl
theorem fours_of {s t : ByteArray} {q p : Nat} (h : ∀ i, i < 4 → byt s (q + i) = byt t (p + i)) : fours s q = fours t p := by
  unfold fours
  have h0 := h 0 (by omega)
  rw [Nat.add_zero, Nat.add_zero] at h0
  rw [h0, h 1 (by omega), h 2 (by omega), h 3 (by omega)]
theorem plc_shift (s t : ByteArray) (d p a n : Nat) (hp : fours t (d + p) = fours s p) (h : ∀ q, a ≤ q → q < a + n → fours t (d + q) = fours s q) : plc t (d + p) (d + a) n = (plc s p a n).map (d + ·) := by
  unfold plc
  rw [← List.map_add_range', List.filter_map]
  congr 1
  apply List.filter_congr
  intro q hq
  rw [List.mem_range'] at hq
  obtain ⟨i, hi, rfl⟩ := hq
  have := h (a + 1 * i) (by omega) (by omega)
  simp only [Function.comp, this, hp]
theorem plc_app (s : ByteArray) (p a n m : Nat) : plc s p a (n + m) = plc s p a n ++ plc s p (a + n) m := by
  unfold plc
  rw [← List.filter_append]
  congr 1
  have := List.range'_append (s := a) (m := n) (n := m) (step := 1)
  rw [Nat.one_mul] at this
  exact this.symm
/-- What stands at the end or behind it does not matter. -/
theorem backE_cut (s t : ByteArray) (p e : Nat) (h : ∀ i, i < e → byt t i = byt s i) : backE t p e p = backE s p e p := by
  unfold backE
  by_cases he : e - p < 4
  · rw [if_pos he, if_pos he]
  · rw [if_neg he, if_neg he]
    unfold back
    congr 1
    have := plc_shift s t 0 p (p - p) p (by
      rw [Nat.zero_add]
      exact fours_of fun i hi => h _ (by omega)) (fun q _ hq => by
      rw [Nat.zero_add]
      exact fours_of fun i hi => h _ (by omega))
    rw [Nat.zero_add, Nat.zero_add] at this
    rw [this]
    simp
/-- Bytes before move all candidates. -/
theorem backE_far (s t : ByteArray) (d p e : Nat) (h : ∀ i, i < e → byt t (d + i) = byt s i) : ∃ r, backE t (d + p) (d + e) (d + p) = (backE s p e p).map (d + ·) ++ r ∧ ∀ x ∈ r, x < d := by
  unfold backE
  by_cases he : e - p < 4
  · rw [if_pos he, if_pos (by omega)]
    exact ⟨[], rfl, by simp⟩
  · rw [if_neg he, if_neg (by omega)]
    unfold back
    rw [Nat.sub_self, Nat.sub_self, plc_app, Nat.zero_add, List.reverse_append]
    have := plc_shift s t d p 0 p (fours_of fun i hi => by rw [show d + p + i = d + (p + i) by omega]; exact h _ (by omega)) (fun q _ hq => fours_of fun i hi => by rw [show d + q + i = d + (q + i) by omega]; exact h _ (by omega))
    rw [Nat.add_zero] at this
    rw [this]
    refine ⟨_, by rw [← List.map_reverse], fun x hx => ?_⟩
    rw [List.mem_reverse] at hx
    unfold plc at hx
    have := (List.mem_filter.1 hx).1
    rw [List.mem_range'] at this
    omega
/-- The nearest candidate where all bytes are the same. -/
theorem near_same (s : ByteArray) (p e : Nat) (h : ∀ i, i < e → byt s i = byt s 0) (hp : 0 < p) (he : 4 ≤ e - p) (hp2 : p ≤ 1024) : cands s p e 10 1 = [p - 1] := by
  rw [cands_all s p e 1 hp2]
  obtain ⟨r, hr⟩ := backE_more s p e 1 (p - 1) (by omega)
  rw [show 1 + (p - 1) = p by omega, backE_succ s p e 0 hp, backE_zero, if_pos ((cmn_four _ _ _ _).2 ⟨he, fours_of fun i hi => by rw [h _ (by omega), h (p + i) (by omega)]⟩)] at hr
  rw [hr]
  simp
end Go.Proofs.Ytammacofhdbgcaa
