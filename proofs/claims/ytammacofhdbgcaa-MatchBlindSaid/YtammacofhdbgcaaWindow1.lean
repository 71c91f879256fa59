/-
  Checks, common lengths and reaches of windows, walked.
-/
import Derived.Test.YtammacofhdbgcaaRows
import Derived.Test.YtammacofhdbgcaaSlice
import Derived.Test.YtammacofhdbgcaaBlk
import Derived.WalkMore
import Derived.Test.YtammacofhdbgcaaCommon
import Derived.Deep.Light
import Derived.Shelf.Abstract
import Derived.Shelf.RegionOpen
import Derived.OwnWalkIn
import Derived.TacticsInMore
import Derived.LoopNIn
import Derived.LoopIn
namespace Go.Proofs.Ytammacofhdbgcaa
open Go.RowKit
set_option linter.unusedSimpArgs false
set_option linter.unusedVariables false
attribute [local go_sem] Oper.semAt_some

/-- The check of a view. -/
def wOk (n : Nat) (p e l : Int) : Prop := 0 ≤ p ∧ p ≤ e ∧ e ≤ n ∧ 10 ≤ l ∧ l ≤ 27
instance (n : Nat) (p e l : Int) : Decidable (wOk n p e l) := by unfold wOk; infer_instance
def wchk (n : Nat) (p e l : Int) : Int := if 1048576 < n then 4 else if wOk n p e l then 0 else 2
theorem wchk_4 {n : Nat} {p e l : Int} (h : (1048576 : Int) < (n : Int)) : wchk n p e l = 4 := by unfold wchk; rw [if_pos (by omega)]
theorem wchk_2 {n : Nat} {p e l : Int} (h : ¬ (1048576 : Int) < (n : Int)) (h2 : ¬ wOk n p e l) : wchk n p e l = 2 := by unfold wchk; rw [if_neg (by omega), if_neg h2]
theorem wchk_0 {n : Nat} {p e l : Int} (h : ¬ (1048576 : Int) < (n : Int)) (h2 : wOk n p e l) : wchk n p e l = 0 := by unfold wchk; rw [if_neg (by omega), if_pos h2]
theorem wchk_ok {n : Nat} {p e l : Int} (h : wchk n p e l = 0) : n ≤ 1048576 ∧ wOk n p e l := by
  unfold wchk at h
  split at h
  · simp at h
  · split at h
    · exact ⟨by omega, by assumption⟩
    · simp at h

set_option maxHeartbeats 1000000 in
theorem wcheck_p (s : ByteArray) (p e l : Int) (w : World) (hl : s.size ≤ 9223372036854775807) :
    Calls Try.prog 51 #[.string s, .int .i64 p, .int .i64 e, .int .i64 l] w fun e' w' => e' = .returned (.int .i64 (wchk s.size p e l)) ∧ Below w.heap.size w w' := by
  by_cases h0 : (1048576 : Int) < (s.size : Int)
  · rw [wchk_4 h0]
    go_enter Try.func51, Try.ntmps51
    go_wp2
    repeat' (first | (go_region <;> go_wp2))
    all_goals go_light
    all_goals (try simp only [beq_iff_eq, beq_eq_false_iff_ne, bne_iff_ne, bne_eq_false_iff_eq, ne_eq] at *)
    all_goals
      refine bodyPost_ret (v := .int .i64 4) (by simp [results, Try.results51, go_sem, *]) rfl ⟨rfl, ?_⟩
      repeat' (first | exact Below.refl _ _ | refine Below.drew ?_ | refine below_drewN ?_ _ | refine Below.alloc ?_ (by first | omega | (simp <;> omega)) _ | refine Below.setCell ?_ (by first | omega | (simp <;> omega)) _ | refine Below.trans ?_ (Below.mono (by assumption) (by first | omega | (simp <;> omega))))
  · by_cases h1 : wOk s.size p e l
    · rw [wchk_0 h0 h1]
      obtain ⟨k1, k2, k3, k4, k5⟩ := h1
      have j1 : ¬ p < 0 := by omega
      have j2 : ¬ e < p := by omega
      have j3 : ¬ (s.size : Int) < e := by omega
      have j4 : ¬ l < 10 := by omega
      have j5 : ¬ 27 < l := by omega
      have j6 : decide (10 ≤ l ∧ l ≤ 27) = true := decide_eq_true ⟨k4, k5⟩
      clear k1 k2 k3 k4 k5
      go_enter Try.func51, Try.ntmps51
      go_wp2
      repeat' (first | (go_region <;> go_wp2))
      all_goals go_light
      all_goals (try simp only [beq_iff_eq, beq_eq_false_iff_ne, bne_iff_ne, bne_eq_false_iff_eq, ne_eq] at *)
      all_goals
        refine bodyPost_ret (v := .int .i64 0) (by simp [results, Try.results51, go_sem, *]) rfl ⟨rfl, ?_⟩
        repeat' (first | exact Below.refl _ _ | refine Below.drew ?_ | refine below_drewN ?_ _ | refine Below.alloc ?_ (by first | omega | (simp <;> omega)) _ | refine Below.setCell ?_ (by first | omega | (simp <;> omega)) _ | refine Below.trans ?_ (Below.mono (by assumption) (by first | omega | (simp <;> omega))))
    · rw [wchk_2 h0 h1]
      have h2 : p < 0 ∨ (¬ p < 0 ∧ e < p) ∨ (¬ p < 0 ∧ ¬ e < p ∧ (s.size : Int) < e) ∨ (¬ p < 0 ∧ ¬ e < p ∧ ¬ (s.size : Int) < e ∧ decide (10 ≤ l ∧ l ≤ 27) = false ∧ (l < 10 ∨ (¬ l < 10 ∧ 27 < l))) := by
        unfold wOk at h1
        by_cases a1 : p < 0
        · exact .inl a1
        · by_cases a2 : e < p
          · exact .inr (.inl ⟨a1, a2⟩)
          · by_cases a3 : (s.size : Int) < e
            · exact .inr (.inr (.inl ⟨a1, a2, a3⟩))
            · exact .inr (.inr (.inr ⟨a1, a2, a3, decide_eq_false (by omega), by omega⟩))
      clear h1
      rcases h2 with a | ⟨a, b⟩ | ⟨a, b, c⟩ | ⟨a, b, c, d, g | ⟨g, g2⟩⟩
      all_goals
        go_enter Try.func51, Try.ntmps51
        go_wp2
        repeat' (first | (go_region <;> go_wp2))
        all_goals go_light
        all_goals (try simp only [beq_iff_eq, beq_eq_false_iff_ne, bne_iff_ne, bne_eq_false_iff_eq, ne_eq] at *)
        all_goals
          refine bodyPost_ret (v := .int .i64 2) (by simp [results, Try.results51, go_sem, *]) rfl ⟨rfl, ?_⟩
          repeat' (first | exact Below.refl _ _ | refine Below.drew ?_ | refine below_drewN ?_ _ | refine Below.alloc ?_ (by first | omega | (simp <;> omega)) _ | refine Below.setCell ?_ (by first | omega | (simp <;> omega)) _ | refine Below.trans ?_ (Below.mono (by assumption) (by first | omega | (simp <;> omega))))

theorem logs_p (l : Int) (w : World) : Calls Try.prog 85 #[.int .i64 l] w fun e w' => e = .returned (.bool (decide (10 ≤ l ∧ l ≤ 27))) ∧ Below w.heap.size w w' := by
  by_cases h1 : 10 ≤ l
  · by_cases h2 : l ≤ 27
    · rw [decide_eq_true ⟨h1, h2⟩]
      go_enter Try.func85, Try.ntmps85
      go_wp2
      repeat' (first | (go_region <;> go_wp2))
      all_goals go_light
      all_goals (try simp only [beq_iff_eq, beq_eq_false_iff_ne, bne_iff_ne, bne_eq_false_iff_eq, ne_eq] at *)
      all_goals
        refine bodyPost_ret (v := .bool true) (by simp [results, Try.results85, go_sem, *]) rfl ⟨rfl, ?_⟩
        repeat' (first | exact Below.refl _ _ | refine Below.drew ?_ | refine below_drewN ?_ _ | refine Below.alloc ?_ (by first | omega | (simp <;> omega)) _ | refine Below.setCell ?_ (by first | omega | (simp <;> omega)) _ | refine Below.trans ?_ (Below.mono (by assumption) (by first | omega | (simp <;> omega))))
    · rw [decide_eq_false (by omega)]
      go_enter Try.func85, Try.ntmps85
      go_wp2
      repeat' (first | (go_region <;> go_wp2))
      all_goals go_light
      all_goals (try simp only [beq_iff_eq, beq_eq_false_iff_ne, bne_iff_ne, bne_eq_false_iff_eq, ne_eq] at *)
      all_goals
        refine bodyPost_ret (v := .bool false) (by simp [results, Try.results85, go_sem, *]) rfl ⟨rfl, ?_⟩
        repeat' (first | exact Below.refl _ _ | refine Below.drew ?_ | refine below_drewN ?_ _ | refine Below.alloc ?_ (by first | omega | (simp <;> omega)) _ | refine Below.setCell ?_ (by first | omega | (simp <;> omega)) _ | refine Below.trans ?_ (Below.mono (by assumption) (by first | omega | (simp <;> omega))))
  · rw [decide_eq_false (by omega)]
    go_enter Try.func85, Try.ntmps85
    go_wp2
    repeat' (first | (go_region <;> go_wp2))
    all_goals go_light
    all_goals (try simp only [beq_iff_eq, beq_eq_false_iff_ne, bne_iff_ne, bne_eq_false_iff_eq, ne_eq] at *)
    all_goals
      refine bodyPost_ret (v := .bool false) (by simp [results, Try.results85, go_sem, *]) rfl ⟨rfl, ?_⟩
      repeat' (first | exact Below.refl _ _ | refine Below.drew ?_ | refine below_drewN ?_ _ | refine Below.alloc ?_ (by first | omega | (simp <;> omega)) _ | refine Below.setCell ?_ (by first | omega | (simp <;> omega)) _ | refine Below.trans ?_ (Below.mono (by assumption) (by first | omega | (simp <;> omega))))

set_option maxHeartbeats 1000000 in
theorem rwcheck_p (s : ByteArray) (p e l : Int) (w : World) (hl : s.size ≤ 9223372036854775807) :
    Calls Try.prog 55 #[.string s, .int .i64 p, .int .i64 e, .int .i64 l] w fun e' w' => e' = .returned (.int .i64 (wchk s.size p e l)) ∧ Below w.heap.size w w' := by
  by_cases h0 : (1048576 : Int) < (s.size : Int)
  · rw [wchk_4 h0]
    go_enter Try.func55, Try.ntmps55
    go_wp2_with ((go_at_call 85; refine (logs_p _ _).mono ?_; rintro e w1 ⟨rfl, hb⟩; have hsz := hb.size; (try simp at hsz)))
    repeat' (first | (go_region <;> go_wp2_with ((go_at_call 85; refine (logs_p _ _).mono ?_; rintro e w1 ⟨rfl, hb⟩; have hsz := hb.size; (try simp at hsz)))))
    all_goals go_light
    all_goals (try simp only [beq_iff_eq, beq_eq_false_iff_ne, bne_iff_ne, bne_eq_false_iff_eq, ne_eq] at *)
    all_goals
      refine bodyPost_ret (v := .int .i64 4) (by simp [results, Try.results55, go_sem, *]) rfl ⟨rfl, ?_⟩
      repeat' (first | exact Below.refl _ _ | refine Below.drew ?_ | refine below_drewN ?_ _ | refine Below.alloc ?_ (by first | omega | (simp <;> omega)) _ | refine Below.setCell ?_ (by first | omega | (simp <;> omega)) _ | refine Below.trans ?_ (Below.mono (by assumption) (by first | omega | (simp <;> omega))))
  · by_cases h1 : wOk s.size p e l
    · rw [wchk_0 h0 h1]
      obtain ⟨k1, k2, k3, k4, k5⟩ := h1
      have j1 : ¬ p < 0 := by omega
      have j2 : ¬ e < p := by omega
      have j3 : ¬ (s.size : Int) < e := by omega
      have j4 : ¬ l < 10 := by omega
      have j5 : ¬ 27 < l := by omega
      have j6 : decide (10 ≤ l ∧ l ≤ 27) = true := decide_eq_true ⟨k4, k5⟩
      clear k1 k2 k3 k4 k5
      go_enter Try.func55, Try.ntmps55
      go_wp2_with ((go_at_call 85; refine (logs_p _ _).mono ?_; rintro e w1 ⟨rfl, hb⟩; have hsz := hb.size; (try simp at hsz)))
      repeat' (first | (go_region <;> go_wp2_with ((go_at_call 85; refine (logs_p _ _).mono ?_; rintro e w1 ⟨rfl, hb⟩; have hsz := hb.size; (try simp at hsz)))))
      all_goals go_light
      all_goals (try simp only [beq_iff_eq, beq_eq_false_iff_ne, bne_iff_ne, bne_eq_false_iff_eq, ne_eq] at *)
      all_goals
        refine bodyPost_ret (v := .int .i64 0) (by simp [results, Try.results55, go_sem, *]) rfl ⟨rfl, ?_⟩
        repeat' (first | exact Below.refl _ _ | refine Below.drew ?_ | refine below_drewN ?_ _ | refine Below.alloc ?_ (by first | omega | (simp <;> omega)) _ | refine Below.setCell ?_ (by first | omega | (simp <;> omega)) _ | refine Below.trans ?_ (Below.mono (by assumption) (by first | omega | (simp <;> omega))))
    · rw [wchk_2 h0 h1]
      have h2 : p < 0 ∨ (¬ p < 0 ∧ e < p) ∨ (¬ p < 0 ∧ ¬ e < p ∧ (s.size : Int) < e) ∨ (¬ p < 0 ∧ ¬ e < p ∧ ¬ (s.size : Int) < e ∧ decide (10 ≤ l ∧ l ≤ 27) = false ∧ (l < 10 ∨ (¬ l < 10 ∧ 27 < l))) := by
        unfold wOk at h1
        by_cases a1 : p < 0
        · exact .inl a1
        · by_cases a2 : e < p
          · exact .inr (.inl ⟨a1, a2⟩)
          · by_cases a3 : (s.size : Int) < e
            · exact .inr (.inr (.inl ⟨a1, a2, a3⟩))
            · exact .inr (.inr (.inr ⟨a1, a2, a3, decide_eq_false (by omega), by omega⟩))
      clear h1
      rcases h2 with a | ⟨a, b⟩ | ⟨a, b, c⟩ | ⟨a, b, c, d, _⟩
      all_goals
        go_enter Try.func55, Try.ntmps55
        go_wp2_with ((go_at_call 85; refine (logs_p _ _).mono ?_; rintro e w1 ⟨rfl, hb⟩; have hsz := hb.size; (try simp at hsz)))
        repeat' (first | (go_region <;> go_wp2_with ((go_at_call 85; refine (logs_p _ _).mono ?_; rintro e w1 ⟨rfl, hb⟩; have hsz := hb.size; (try simp at hsz)))))
        all_goals go_light
        all_goals (try simp only [beq_iff_eq, beq_eq_false_iff_ne, bne_iff_ne, bne_eq_false_iff_eq, ne_eq] at *)
        all_goals
          refine bodyPost_ret (v := .int .i64 2) (by simp [results, Try.results55, go_sem, *]) rfl ⟨rfl, ?_⟩
          repeat' (first | exact Below.refl _ _ | refine Below.drew ?_ | refine below_drewN ?_ _ | refine Below.alloc ?_ (by first | omega | (simp <;> omega)) _ | refine Below.setCell ?_ (by first | omega | (simp <;> omega)) _ | refine Below.trans ?_ (Below.mono (by assumption) (by first | omega | (simp <;> omega))))

/-! The common length of two places -/
def byt (s : ByteArray) (i : Nat) : Nat := if h : i < s.size then (s[i]'h).toNat else 0
theorem byt_get {s : ByteArray} {i c : Nat} (h : i < s.size) (hc : (s[i]'h).toNat = c) : byt s i = c := by unfold byt; rw [dif_pos h, hc]
def cmn (s : ByteArray) : Nat → Nat → Nat → Nat
  | 0, _, _ => 0
  | f + 1, q, p => if byt s q = byt s p then 1 + cmn s f (q + 1) (p + 1) else 0
theorem cmn_eq (s : ByteArray) : ∀ (n f q p : Nat), n ≤ f → (∀ j, j < n → byt s (q + j) = byt s (p + j)) → (n = f ∨ byt s (q + n) ≠ byt s (p + n)) → cmn s f q p = n := by
  intro n
  induction n with
  | zero =>
    intro f q p _ _ h
    cases f with
    | zero => rfl
    | succ f =>
      rcases h with h | h
      · omega
      · simp only [Nat.add_zero] at h
        simp [cmn, h]
  | succ n ih =>
    intro f q p hf hj h
    cases f with
    | zero => omega
    | succ f =>
      have h0 := hj 0 (by omega)
      simp only [Nat.add_zero] at h0
      simp only [cmn, h0, if_true]
      rw [ih f (q + 1) (p + 1) (by omega) (fun j hjn => by
        have := hj (j + 1) (by omega)
        rw [show q + 1 + j = q + (j + 1) by omega, show p + 1 + j = p + (j + 1) by omega]
        exact this) (by
        rcases h with h | h
        · left; omega
        · right
          rw [show q + 1 + n = q + (n + 1) by omega, show p + 1 + n = p + (n + 1) by omega]
          exact h)]
      omega
/-- What Common returns. -/
def wcom (s : ByteArray) (q p e : Int) : Int × Int := if 1048576 < s.size then (0, 4) else if 0 ≤ q ∧ q < p ∧ p ≤ e ∧ e ≤ (s.size : Int) then (((cmn s (e - p).toNat q.toNat p.toNat : Nat) : Int), 0) else (0, 2)

set_option maxHeartbeats 1000000 in
theorem wcommon_1 (s : ByteArray) (q p e : Nat) (w : World) (hl : s.size ≤ 9223372036854775807) (hc : wchk s.size p e 10 = 0) (hqp : q < p) :
    Calls Try.prog 65 #[.string s, .int .i64 (q : Int), .int .i64 (p : Int), .int .i64 (e : Int)] w fun e' w' => e' = .returned (.tuple #[.int .i64 (cmn s (e - p) q p : Nat), .int .i64 0]) ∧ Below w.heap.size w w' := by
  obtain ⟨h1, h2, h3, h4, _⟩ := wchk_ok hc
  have g1 : ¬ (q : Int) < 0 := by omega
  have g2 : ¬ (p : Int) ≤ (q : Int) := by omega
  have g3 : (e : Int) ≤ (s.size : Int) := h4
  have g4 : (s.size : Int) ≤ 1048576 := by omega
  clear h1 h2
  go_enter Try.func65, Try.ntmps65
  go_wp2
  go_step3
  go_wp2_with ((go_at_call 51; refine (wcheck_p _ _ _ _ _ hl).mono ?_; rintro e w1 ⟨rfl, hb⟩; have hsz := hb.size; (try simp at hsz)))
  (try (go_step3; go_wp2))
  go_loopw [11] (fun v wr => ∃ n : Nat, v = .int .i64 n ∧ p + n ≤ e ∧ Hid (∀ j, j < n → byt s (q + j) = byt s (p + j)) ∧ Below w.heap.size w wr) (fun v _ => e - p - (intOf v).toNat)
  case atStart => exact ⟨0, rfl, by omega, fun j hj => by omega, hb⟩
  case round =>
    clear hb hsz hc
    obtain ⟨n, rfl, hn, HE, hb⟩ := hrel
    by_cases hlt : p + n < e
    · have hq : q + n < s.size := by omega
      have hp : p + n < s.size := by omega
      obtain ⟨c, hc⟩ : ∃ c : Nat, (s[q + n]'hq).toNat = c := ⟨_, rfl⟩
      obtain ⟨d, hd⟩ : ∃ d : Nat, (s[p + n]'hp).toNat = d := ⟨_, rfl⟩
      have HC := Lib.hid (byt_get hq hc)
      have HD := Lib.hid (byt_get hp hd)
      have i0 : (0 : Int) ≤ (q : Int) + (n : Int) := by omega
      have i1 : (q : Int) + (n : Int) < (s.size : Int) := by omega
      have i2 : (0 : Int) ≤ (p : Int) + (n : Int) := by omega
      have i3 : (p : Int) + (n : Int) < (s.size : Int) := by omega
      have i4 : (p : Int) + (n : Int) < (e : Int) := by omega
      have t1 : ((q : Int) + (n : Int)).toNat = q + n := by omega
      have t2 : ((p : Int) + (n : Int)).toNat = p + n := by omega
      by_cases hcd : c = d
      · have e2 : ((c : Int) != (d : Int)) = false := by simp; omega
        go_wp2
        go_quiet (fail)
        go_wp2
        go_roundw
        case rel =>
          refine ⟨n + 1, by go_num, by omega, fun j hj => ?_, below_drewN hb _⟩
          by_cases hjn : j < n
          · exact HE.out j hjn
          · obtain rfl : j = n := by omega
            rw [HC.out, HD.out, hcd]
        case measure => go_light; simp [intOf] <;> omega
      · have e2 : ((c : Int) != (d : Int)) = true := by simp; omega
        have E1 := Lib.hid (cmn_eq s n (e - p) q p (by omega) HE.out (.inr (by rw [HC.out, HD.out]; exact hcd)))
        go_wp2
        go_quiet (fail)
        go_wp2
        (try rw [Exit.noGoto_ret])
        go_ret2
        exact ⟨by rw [E1.out]; rfl, below_drewN hb _⟩
    · have E1 := Lib.hid (cmn_eq s n (e - p) q p (by omega) HE.out (.inl (by omega)))
      have i4 : ¬ (p : Int) + (n : Int) < (e : Int) := by omega
      go_wp2
      (try rw [Exit.noGoto_ret])
      go_ret2
      exact ⟨by rw [E1.out]; rfl, hb⟩

theorem wcommon_p (s : ByteArray) (q p e : Int) (w : World) (hl : s.size ≤ 9223372036854775807) :
    Calls Try.prog 65 #[.string s, .int .i64 q, .int .i64 p, .int .i64 e] w fun e' w' => e' = .returned (.tuple #[.int .i64 (wcom s q p e).1, .int .i64 (wcom s q p e).2]) ∧ Below w.heap.size w w' := by
  unfold wcom
  by_cases h0 : (1048576 : Int) < (s.size : Int)
  · rw [if_pos (by omega)]
    have q1 := fun w => wcheck_p s p e 10 w hl
    rw [wchk_4 h0] at q1
    go_enter Try.func65, Try.ntmps65
    go_wp2
    go_step3
    go_wp2_with ((go_at_call 51; refine (q1 _).mono ?_; rintro e w1 ⟨rfl, hb⟩; have hsz := hb.size; (try simp at hsz)))
    repeat' (first | (go_region <;> go_wp2_with ((go_at_call 51; refine (q1 _).mono ?_; rintro e w1 ⟨rfl, hb⟩; have hsz := hb.size; (try simp at hsz)))))
    all_goals go_light
    all_goals (try rw [Exit.noGoto_ret])
    all_goals (refine bodyPost_ret (v := .tuple #[.int .i64 0, .int .i64 4]) (by simp [results, Try.results65, go_sem, *]) rfl ⟨rfl, ?_⟩; repeat' (first | exact Below.refl _ _ | refine Below.drew ?_ | refine below_drewN ?_ _ | refine Below.alloc ?_ (by first | omega | (simp <;> omega)) _ | refine Below.setCell ?_ (by first | omega | (simp <;> omega)) _ | refine Below.trans ?_ (Below.mono (by assumption) (by first | omega | (simp <;> omega)))))
  · rw [if_neg (by omega)]
    by_cases h1 : 0 ≤ q ∧ q < p ∧ p ≤ e ∧ e ≤ (s.size : Int)
    · rw [if_pos h1]
      obtain ⟨a1, a2, a3, a4⟩ := h1
      obtain ⟨q, rfl⟩ : ∃ n : Nat, q = (n : Int) := ⟨q.toNat, by omega⟩
      obtain ⟨p, rfl⟩ : ∃ n : Nat, p = (n : Int) := ⟨p.toNat, by omega⟩
      obtain ⟨e, rfl⟩ : ∃ n : Nat, e = (n : Int) := ⟨e.toNat, by omega⟩
      have t1 : ((e : Int) - (p : Int)).toNat = e - p := by omega
      simp only [t1, Int.toNat_natCast]
      exact wcommon_1 s q p e w hl (wchk_0 h0 ⟨by omega, by omega, by omega, by omega, by omega⟩) (by omega)
    · rw [if_neg h1]
      by_cases h2 : wOk s.size p e 10
      · have q1 := fun w => wcheck_p s p e 10 w hl
        rw [wchk_0 h0 h2] at q1
        have h3 : q < 0 ∨ (¬ q < 0 ∧ p ≤ q) := by unfold wOk at h2; omega
        clear h1 h2
        rcases h3 with a | ⟨a, b⟩
        all_goals
          go_enter Try.func65, Try.ntmps65
          go_wp2
          go_step3
          go_wp2_with ((go_at_call 51; refine (q1 _).mono ?_; rintro e w1 ⟨rfl, hb⟩; have hsz := hb.size; (try simp at hsz)))
          repeat' (first | (go_region <;> go_wp2_with ((go_at_call 51; refine (q1 _).mono ?_; rintro e w1 ⟨rfl, hb⟩; have hsz := hb.size; (try simp at hsz)))))
          all_goals go_light
          all_goals (try rw [Exit.noGoto_ret])
          all_goals (refine bodyPost_ret (v := .tuple #[.int .i64 0, .int .i64 2]) (by simp [results, Try.results65, go_sem, *]) rfl ⟨rfl, ?_⟩; repeat' (first | exact Below.refl _ _ | refine Below.drew ?_ | refine below_drewN ?_ _ | refine Below.alloc ?_ (by first | omega | (simp <;> omega)) _ | refine Below.setCell ?_ (by first | omega | (simp <;> omega)) _ | refine Below.trans ?_ (Below.mono (by assumption) (by first | omega | (simp <;> omega)))))
      · have q1 := fun w => wcheck_p s p e 10 w hl
        rw [wchk_2 h0 h2] at q1
        clear h1 h2
        go_enter Try.func65, Try.ntmps65
        go_wp2
        go_step3
        go_wp2_with ((go_at_call 51; refine (q1 _).mono ?_; rintro e w1 ⟨rfl, hb⟩; have hsz := hb.size; (try simp at hsz)))
        repeat' (first | (go_region <;> go_wp2_with ((go_at_call 51; refine (q1 _).mono ?_; rintro e w1 ⟨rfl, hb⟩; have hsz := hb.size; (try simp at hsz)))))
        all_goals go_light
        all_goals (try rw [Exit.noGoto_ret])
        all_goals (refine bodyPost_ret (v := .tuple #[.int .i64 0, .int .i64 2]) (by simp [results, Try.results65, go_sem, *]) rfl ⟨rfl, ?_⟩; repeat' (first | exact Below.refl _ _ | refine Below.drew ?_ | refine below_drewN ?_ _ | refine Below.alloc ?_ (by first | omega | (simp <;> omega)) _ | refine Below.setCell ?_ (by first | omega | (simp <;> omega)) _ | refine Below.trans ?_ (Below.mono (by assumption) (by first | omega | (simp <;> omega)))))
end Go.Proofs.Ytammacofhdbgcaa
