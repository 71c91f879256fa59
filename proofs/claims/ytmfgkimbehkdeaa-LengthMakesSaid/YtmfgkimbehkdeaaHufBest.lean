/-
  No lengths within Kraft's bound have a lesser total than those of the tree. No program in sight.
-/
import Derived.Test.YtmfgkimbehkdeaaHufFine
namespace Go.Proofs.Ytmfgkimbehkdeaa
set_option linter.unusedSimpArgs false
set_option linter.unusedVariables false
/-- The room that lengths take, of 2^M, and their total; a pair is a weight and a length. -/
def room (M : Nat) (P : List (Nat × Nat)) : Nat := (P.map fun p => 2 ^ (M - p.2)).sum
def cost (P : List (Nat × Nat)) : Nat := (P.map fun p => p.1 * p.2).sum
def lens (P : List (Nat × Nat)) : Nat := (P.map fun p => p.2).sum
theorem room_perm {M : Nat} {P Q : List (Nat × Nat)} (p : P.Perm Q) : room M P = room M Q := (p.map _).sum_nat
theorem cost_perm {P Q : List (Nat × Nat)} (p : P.Perm Q) : cost P = cost Q := (p.map _).sum_nat
theorem lens_perm {P Q : List (Nat × Nat)} (p : P.Perm Q) : lens P = lens Q := (p.map _).sum_nat
theorem room_cons (M : Nat) (w L : Nat) (P : List (Nat × Nat)) : room M ((w, L) :: P) = 2 ^ (M - L) + room M P := by simp [room]
theorem cost_cons (w L : Nat) (P : List (Nat × Nat)) : cost ((w, L) :: P) = w * L + cost P := by simp [cost]
theorem lens_cons (w L : Nat) (P : List (Nat × Nat)) : lens ((w, L) :: P) = L + lens P := by simp [lens]
/-- The room of lengths below m is a multiple. -/
theorem room_dvd {M m : Nat} (hm : m ≤ M) : ∀ {P : List (Nat × Nat)}, (∀ p ∈ P, p.2 < m) → 2 ^ (M - m + 1) ∣ room M P := by
  intro P
  induction P with
  | nil => intro _; exact ⟨0, rfl⟩
  | cons p P ih =>
    intro h
    obtain ⟨w, L⟩ := p
    rw [room_cons]
    have h1 := h (w, L) (by simp)
    dsimp only at h1
    exact Nat.dvd_add (Nat.pow_dvd_pow 2 (by omega)) (ih (fun p hp => h p (by simp [hp])))
/-- A length that is longer than all others can be one less. -/
theorem room_less {M m w : Nat} {P : List (Nat × Nat)} (hm : m ≤ M) (h0 : 0 < m) (h : ∀ p ∈ P, p.2 < m) (hr : room M ((w, m) :: P) ≤ 2 ^ M) : room M ((w, m - 1) :: P) ≤ 2 ^ M := by
  rw [room_cons] at hr ⊢
  obtain ⟨q, hq⟩ := room_dvd hm h
  have e1 : M - (m - 1) = (M - m) + 1 := by omega
  have e2 : 2 ^ M = 2 ^ (M - m + 1) * 2 ^ (m - 1) := by rw [← Nat.pow_add]; congr 1; omega
  have e3 : 2 ^ (M - m + 1) = 2 * 2 ^ (M - m) := by rw [Nat.pow_succ, Nat.mul_comm]
  have hp : 0 < 2 ^ (M - m) := Nat.pow_pos (by decide)
  rw [e1, hq, e2]
  rw [hq, e2] at hr
  generalize 2 ^ (m - 1) = A at hr ⊢
  rw [e3] at hr ⊢
  generalize 2 ^ (M - m) = B at hr hp ⊢
  have h3 : q < A := by
    rcases Nat.lt_or_ge q A with h | h
    · exact h
    · exfalso
      have := Nat.mul_le_mul_left (2 * B) h
      omega
  have := Nat.mul_le_mul_left (2 * B) (show q + 1 ≤ A from h3)
  rw [Nat.mul_add] at this
  omega
theorem max_of : ∀ (P : List (Nat × Nat)) (a : Nat), (∀ p ∈ P, p.2 ≤ a) ∨ ∃ p ∈ P, a < p.2 ∧ ∀ q ∈ P, q.2 ≤ p.2 := by
  intro P
  induction P with
  | nil => intro a; exact .inl (fun p hp => by cases hp)
  | cons p P ih =>
    intro a
    rcases Nat.lt_or_ge a p.2 with h | h
    · rcases ih p.2 with h1 | ⟨q, hq, h2, h3⟩
      · refine .inr ⟨p, by simp, h, fun q hq => ?_⟩
        simp only [List.mem_cons] at hq
        rcases hq with rfl | hq
        · exact Nat.le_refl _
        · exact h1 q hq
      · refine .inr ⟨q, by simp [hq], by omega, fun r hr => ?_⟩
        simp only [List.mem_cons] at hr
        rcases hr with rfl | hr
        · omega
        · exact h3 r hr
    · rcases ih a with h1 | ⟨q, hq, h2, h3⟩
      · refine .inl (fun r hr => ?_)
        simp only [List.mem_cons] at hr
        rcases hr with rfl | hr
        · exact h
        · exact h1 r hr
      · refine .inr ⟨q, by simp [hq], h2, fun r hr => ?_⟩
        simp only [List.mem_cons] at hr
        rcases hr with rfl | hr
        · omega
        · exact h3 r hr
theorem mul_swap {x w a L : Nat} (h1 : x ≤ w) (h2 : a ≤ L) : x * L + w * a ≤ x * a + w * L := by
  obtain ⟨d, rfl⟩ := Nat.le.dest h1
  obtain ⟨e, rfl⟩ := Nat.le.dest h2
  simp only [Nat.mul_add, Nat.add_mul]
  omega
/-- The two least weights can have the same length, and be joined: the total falls by their sum. -/
theorem join_two (M : Nat) : ∀ (n : Nat) (x y a b : Nat) (R : List (Nat × Nat)), a + b + lens R ≤ n → x ≤ y → (∀ p ∈ R, y ≤ p.1) → a ≤ M → b ≤ M → (∀ p ∈ R, p.2 ≤ M) → room M ((x, a) :: (y, b) :: R) ≤ 2 ^ M →
    ∃ (m : Nat) (Q : List (Nat × Nat)), (Q.map Prod.fst).Perm (R.map Prod.fst) ∧ m ≤ M ∧ (∀ p ∈ Q, p.2 ≤ M) ∧ room M ((x + y, m) :: Q) ≤ 2 ^ M ∧ cost ((x + y, m) :: Q) + (x + y) ≤ cost ((x, a) :: (y, b) :: R) := by
  intro n
  induction n with
  | zero =>
    intro x y a b R hn hxy hR ha hb hRM hr
    exfalso
    rw [room_cons, room_cons] at hr
    have e1 : a = 0 := by omega
    have e2 : b = 0 := by omega
    rw [e1, e2] at hr
    have : 0 < 2 ^ M := Nat.pow_pos (by decide)
    simp at hr
    omega
  | succ n ih =>
    -- the case where x has the greatest length
    have main : ∀ (x y a b : Nat) (R : List (Nat × Nat)), a + b + lens R ≤ n + 1 → x ≤ y → (∀ p ∈ R, y ≤ p.1) → a ≤ M → b ≤ a → (∀ p ∈ R, p.2 ≤ a) → room M ((x, a) :: (y, b) :: R) ≤ 2 ^ M →
        ∃ (m : Nat) (Q : List (Nat × Nat)), (Q.map Prod.fst).Perm (R.map Prod.fst) ∧ m ≤ M ∧ (∀ p ∈ Q, p.2 ≤ M) ∧ room M ((x + y, m) :: Q) ≤ 2 ^ M ∧ cost ((x + y, m) :: Q) + (x + y) ≤ cost ((x, a) :: (y, b) :: R) := by
      intro x y a b R hn hxy hR ha hb hRa hr
      have h0 : 0 < a := by
        rcases Nat.eq_zero_or_pos a with h | h
        · exfalso
          have e2 : b = 0 := by omega
          rw [room_cons, room_cons, h, e2] at hr
          have : 0 < 2 ^ M := Nat.pow_pos (by decide)
          simp at hr
          omega
        · exact h
      have fin : ∀ R : List (Nat × Nat), (∀ p ∈ R, p.2 ≤ a) → room M ((x, a) :: (y, a) :: R) ≤ 2 ^ M → room M ((x + y, a - 1) :: R) ≤ 2 ^ M ∧ cost ((x + y, a - 1) :: R) + (x + y) = cost ((x, a) :: (y, a) :: R) := by
        intro R _ hr
        rw [room_cons, room_cons] at hr
        rw [room_cons, cost_cons, cost_cons, cost_cons]
        have e : 2 ^ (M - (a - 1)) = 2 ^ (M - a) + 2 ^ (M - a) := by rw [show M - (a - 1) = (M - a) + 1 by omega, Nat.pow_succ]; omega
        refine ⟨by omega, ?_⟩
        obtain ⟨d, rfl⟩ : ∃ d, a = d + 1 := ⟨a - 1, by omega⟩
        simp only [Nat.add_sub_cancel, Nat.mul_add, Nat.add_mul, Nat.mul_one]
        omega
      by_cases hba : b = a
      · subst hba
        obtain ⟨h1, h2⟩ := fin R hRa hr
        exact ⟨b - 1, R, List.Perm.refl _, by omega, fun p hp => Nat.le_trans (hRa p hp) ha, h1, Nat.le_of_eq h2⟩
      · by_cases hex : ∃ p ∈ R, p.2 = a
        · obtain ⟨⟨w, L⟩, hp, hL⟩ := hex
          dsimp only at hL
          subst hL
          obtain ⟨S, T, rfl⟩ := List.append_of_mem hp
          have pm : (S ++ (w, L) :: T).Perm ((w, L) :: (S ++ T)) := List.perm_middle
          have hr2 : room M ((x, L) :: (y, L) :: (w, b) :: (S ++ T)) ≤ 2 ^ M := by
            rw [room_cons, room_cons, room_cons]
            rw [room_cons, room_cons, room_perm pm, room_cons] at hr
            omega
          obtain ⟨h1, h2⟩ := fin ((w, b) :: (S ++ T)) (by
            intro p hp
            simp only [List.mem_cons] at hp
            rcases hp with rfl | hp
            · exact hb
            · exact hRa p (pm.mem_iff.2 (by simp at hp ⊢; exact .inr hp))) hr2
          refine ⟨L - 1, (w, b) :: (S ++ T), ?_, by omega, ?_, h1, ?_⟩
          · exact ((pm.map Prod.fst).symm : (((w, L) :: (S ++ T)).map Prod.fst).Perm _)
          · intro p hp
            simp only [List.mem_cons] at hp
            rcases hp with rfl | hp
            · exact Nat.le_trans hb ha
            · exact Nat.le_trans (hRa p (pm.mem_iff.2 (by simp at hp ⊢; exact .inr hp))) ha
          · rw [h2]
            rw [cost_cons, cost_cons, cost_cons, cost_cons, cost_cons, cost_perm pm, cost_cons]
            have := mul_swap (hR (w, L) hp) hb
            dsimp only at this
            omega
        · -- x alone has the greatest length
          have hlt : ∀ p ∈ (y, b) :: R, p.2 < a := by
            intro p hp
            simp only [List.mem_cons] at hp
            rcases hp with rfl | hp
            · show b < a; omega
            · have := hRa p hp
              have : p.2 ≠ a := fun h => hex ⟨p, hp, h⟩
              omega
          have hr2 := room_less ha h0 hlt hr
          obtain ⟨m, Q, q1, q2, q3, q4, q5⟩ := ih x y (a - 1) b R (by omega) hxy hR (by omega) (by omega) (fun p hp => Nat.le_trans (hRa p hp) ha) hr2
          refine ⟨m, Q, q1, q2, q3, q4, Nat.le_trans q5 ?_⟩
          rw [cost_cons, cost_cons _ a]
          have := Nat.mul_le_mul_left x (Nat.sub_le a 1)
          omega
    intro x y a b R hn hxy hR ha hb hRM hr
    rcases max_of R (max a b) with h1 | ⟨⟨w, L⟩, hp, h2, h3⟩
    · rcases Nat.le_total b a with hba | hba
      · exact main x y a b R hn hxy hR ha hba (fun p hp => by have := h1 p hp; omega) hr
      · have hr2 : room M ((x, b) :: (y, a) :: R) ≤ 2 ^ M := by
          rw [room_cons, room_cons] at hr ⊢
          omega
        obtain ⟨m, Q, q1, q2, q3, q4, q5⟩ := main x y b a R (by omega) hxy hR hb hba (fun p hp => by have := h1 p hp; omega) hr2
        refine ⟨m, Q, q1, q2, q3, q4, Nat.le_trans q5 ?_⟩
        rw [cost_cons, cost_cons, cost_cons, cost_cons]
        have := mul_swap hxy hba
        omega
    · dsimp only at h2 h3
      obtain ⟨S, T, rfl⟩ := List.append_of_mem hp
      have pm : (S ++ (w, L) :: T).Perm ((w, L) :: (S ++ T)) := List.perm_middle
      have hw := hR (w, L) hp
      dsimp only at hw
      have hLM := hRM (w, L) hp
      dsimp only at hLM
      have hr2 : room M ((x, L) :: (y, b) :: (w, a) :: (S ++ T)) ≤ 2 ^ M := by
        rw [room_cons, room_cons, room_cons]
        rw [room_cons, room_cons, room_perm pm, room_cons] at hr
        omega
      have hn2 : L + b + lens ((w, a) :: (S ++ T)) ≤ n + 1 := by
        rw [lens_perm pm, lens_cons] at hn
        rw [lens_cons]
        omega
      have hR2 : ∀ p ∈ (w, a) :: (S ++ T), y ≤ p.1 := by
        intro p hp
        simp only [List.mem_cons] at hp
        rcases hp with rfl | hp
        · exact hw
        · exact hR p (pm.mem_iff.2 (by simp at hp ⊢; exact .inr hp))
      have hRL : ∀ p ∈ (w, a) :: (S ++ T), p.2 ≤ L := by
        intro p hp
        simp only [List.mem_cons] at hp
        rcases hp with rfl | hp
        · show a ≤ L; omega
        · exact h3 p (pm.mem_iff.2 (by simp at hp ⊢; exact .inr hp))
      obtain ⟨m, Q, q1, q2, q3, q4, q5⟩ := main x y L b ((w, a) :: (S ++ T)) hn2 hxy hR2 hLM (by omega) hRL hr2
      refine ⟨m, Q, q1.trans ((pm.map Prod.fst).symm : (((w, L) :: (S ++ T)).map Prod.fst).Perm _), q2, q3, q4, Nat.le_trans q5 ?_⟩
      rw [cost_cons, cost_cons, cost_cons, cost_cons, cost_cons, cost_perm pm, cost_cons]
      have := mul_swap (show x ≤ w by omega) (show a ≤ L by omega)
      omega
end Go.Proofs.Ytmfgkimbehkdeaa
