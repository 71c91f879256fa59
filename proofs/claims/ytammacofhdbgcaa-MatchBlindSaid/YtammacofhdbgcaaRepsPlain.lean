/-
  What the functions of package reps compute, as plain Lean functions on integers. No program in sight.
-/
namespace Go.Proofs.Ytammacofhdbgcaa
/-- The check of a history, offset by offset: is one behind an unknown one known? -/
def chkL : Bool → List Int → Int
  | _, [] => 0
  | kn, n :: r => if n < 0 ∨ 2147483648 < n ∨ (0 < n ∧ kn = false) then 10 else chkL (decide (0 < n)) r
theorem chkL_bad (kn : Bool) (n : Int) (r : List Int) (h : n < 0 ∨ 2147483648 < n ∨ (0 < n ∧ kn = false)) : chkL kn (n :: r) = 10 := by simp only [chkL]; rw [if_pos h]
theorem chkL_good (kn : Bool) (n : Int) (r : List Int) (h : ¬ (n < 0 ∨ 2147483648 < n ∨ (0 < n ∧ kn = false))) : chkL kn (n :: r) = chkL (decide (0 < n)) r := by simp only [chkL]; rw [if_neg h]
theorem chk_ok {a b c : Int} (h : chkL true [a, b, c] = 0) : 0 ≤ a ∧ a ≤ 2147483648 ∧ 0 ≤ b ∧ b ≤ 2147483648 ∧ 0 ≤ c ∧ c ≤ 2147483648 ∧ (0 < b → 0 < a) ∧ (0 < c → 0 < b) := by
  simp only [chkL] at h
  split at h
  · omega
  · split at h
    · omega
    · split at h
      · omega
      · rename_i h1 h2 h3
        simp at h1 h2 h3
        omega
theorem chk_of {a b c : Int} (h : 0 ≤ a ∧ a ≤ 2147483648 ∧ 0 ≤ b ∧ b ≤ 2147483648 ∧ 0 ≤ c ∧ c ≤ 2147483648 ∧ (0 < b → 0 < a) ∧ (0 < c → 0 < b)) : chkL true [a, b, c] = 0 := by
  rw [chkL_good _ _ _ (by simp; omega), chkL_good _ _ _ (by simp; omega), chkL_good _ _ _ (by simp; omega)]
  rfl
theorem chk_two (a b c : Int) : chkL true [a, b, c] = 0 ∨ chkL true [a, b, c] = 10 := by
  simp only [chkL]
  split
  · exact .inr rfl
  · split
    · exact .inr rfl
    · split
      · exact .inr rfl
      · exact .inl rfl
theorem chk_ten {a b c : Int} (h : ¬ (0 ≤ a ∧ a ≤ 2147483648 ∧ 0 ≤ b ∧ b ≤ 2147483648 ∧ 0 ≤ c ∧ c ≤ 2147483648 ∧ (0 < b → 0 < a) ∧ (0 < c → 0 < b))) : chkL true [a, b, c] = 10 := by
  rcases chk_two a b c with h1 | h1
  · exact absurd (chk_ok h1) h
  · exact h1
def rAt (v l : Int) : Int := v - 1 + (if l = 0 then 1 else 0)
/-- What a value means: the distance, the next history, the error. -/
def Rmean (a b c v l : Int) : Int × (Int × Int × Int) × Int :=
  if 3 < v then (v - 3, (v - 3, a, b), 0)
  else if rAt v l = 3 then (if a = 0 then (0, (a, b, c), 7) else if a = 1 then (0, (a, b, c), 25) else (a - 1, (a - 1, a, b), 0))
  else if rAt v l = 0 then (if a = 0 then (0, (a, b, c), 7) else (a, (a, b, c), 0))
  else if rAt v l = 1 then (if b = 0 then (0, (a, b, c), 7) else (b, (b, a, c), 0))
  else (if c = 0 then (0, (a, b, c), 7) else (c, (c, a, b), 0))
/-- The same with the errors of the arguments. -/
def Rask (a b c v l : Int) : Int × (Int × Int × Int) × Int :=
  if chkL true [a, b, c] ≠ 0 then (0, (0, 0, 0), chkL true [a, b, c])
  else if v < 1 ∨ 2147483651 < v ∨ l < 0 then (0, (0, 0, 0), 2)
  else if (Rmean a b c v l).2.2 ≠ 0 then (0, (0, 0, 0), (Rmean a b c v l).2.2)
  else Rmean a b c v l
theorem rask_chk {a b c v l : Int} (h : chkL true [a, b, c] ≠ 0) : Rask a b c v l = (0, (0, 0, 0), chkL true [a, b, c]) := by unfold Rask; rw [if_pos h]
theorem rask_range {a b c v l : Int} (h : chkL true [a, b, c] = 0) (h2 : v < 1 ∨ 2147483651 < v ∨ l < 0) : Rask a b c v l = (0, (0, 0, 0), 2) := by unfold Rask; rw [if_neg (by simpa using h), if_pos h2]
theorem rask_err {a b c v l : Int} (h : chkL true [a, b, c] = 0) (h2 : ¬ (v < 1 ∨ 2147483651 < v ∨ l < 0)) (h3 : (Rmean a b c v l).2.2 ≠ 0) : Rask a b c v l = (0, (0, 0, 0), (Rmean a b c v l).2.2) := by unfold Rask; rw [if_neg (by simpa using h), if_neg h2, if_pos h3]
theorem rask_ok {a b c v l : Int} (h : chkL true [a, b, c] = 0) (h2 : ¬ (v < 1 ∨ 2147483651 < v ∨ l < 0)) (h3 : (Rmean a b c v l).2.2 = 0) : Rask a b c v l = Rmean a b c v l := by unfold Rask; rw [if_neg (by simpa using h), if_neg h2, if_neg (by simpa using h3)]
/-- The value of a distance, and the error. -/
def Rval (a b c d l : Int) : Int × Int :=
  if chkL true [a, b, c] ≠ 0 then (0, chkL true [a, b, c])
  else if d < 1 ∨ 2147483648 < d ∨ l < 0 then (0, 2)
  else if (Rmean a b c 1 l).2.2 = 0 ∧ (Rmean a b c 1 l).1 = d then (1, 0)
  else if (Rmean a b c 2 l).2.2 = 0 ∧ (Rmean a b c 2 l).1 = d then (2, 0)
  else if (Rmean a b c 3 l).2.2 = 0 ∧ (Rmean a b c 3 l).1 = d then (3, 0)
  else (d + 3, 0)
theorem rval_chk {a b c d l : Int} (h : chkL true [a, b, c] ≠ 0) : Rval a b c d l = (0, chkL true [a, b, c]) := by unfold Rval; rw [if_pos h]
theorem rval_range {a b c d l : Int} (h : chkL true [a, b, c] = 0) (h2 : d < 1 ∨ 2147483648 < d ∨ l < 0) : Rval a b c d l = (0, 2) := by unfold Rval; rw [if_neg (by simpa using h), if_pos h2]
theorem rval_in {a b c d l : Int} (h : chkL true [a, b, c] = 0) (h2 : ¬ (d < 1 ∨ 2147483648 < d ∨ l < 0)) : Rval a b c d l =
    if (Rmean a b c 1 l).2.2 = 0 ∧ (Rmean a b c 1 l).1 = d then (1, 0)
    else if (Rmean a b c 2 l).2.2 = 0 ∧ (Rmean a b c 2 l).1 = d then (2, 0)
    else if (Rmean a b c 3 l).2.2 = 0 ∧ (Rmean a b c 3 l).1 = d then (3, 0)
    else (d + 3, 0) := by unfold Rval; rw [if_neg (by simpa using h), if_neg h2]
/-- Which place of the history a value names (3: a new one), as the reference has it. -/
def Rplace (a b c v l : Int) : Int :=
  if 3 < v then 3
  else if rAt v l = 3 then (if a = 0 then 0 else if a = 1 then 0 else 3)
  else if rAt v l = 0 then 0
  else if rAt v l = 1 then (if b = 0 then 0 else 1)
  else (if c = 0 then 0 else 2)
theorem rplace_spec {a b c v l : Int} (h : (Rmean a b c v l).2.2 = 0) :
    (Rplace a b c v l = 0 → (Rmean a b c v l).2.1 = (a, b, c)) ∧ (Rplace a b c v l = 1 → (Rmean a b c v l).2.1 = ((Rmean a b c v l).1, a, c)) ∧
    (Rplace a b c v l ≠ 0 → Rplace a b c v l ≠ 1 → (Rmean a b c v l).2.1 = ((Rmean a b c v l).1, a, b)) := by
  unfold Rmean at h ⊢
  unfold Rplace
  split
  · simp
  · rename_i h1
    rw [if_neg h1] at h
    split
    · rename_i h2
      rw [if_pos h2] at h
      split
      · rename_i h3; rw [if_pos h3] at h; simp at h
      · rename_i h3
        rw [if_neg h3] at h
        split
        · rename_i h4; rw [if_pos h4] at h; simp at h
        · simp
    · rename_i h2
      rw [if_neg h2] at h
      split
      · rename_i h3
        rw [if_pos h3] at h
        split
        · rename_i h4; rw [if_pos h4] at h; simp at h
        · simp
      · rename_i h3
        rw [if_neg h3] at h
        split
        · rename_i h4
          rw [if_pos h4] at h
          split
          · rename_i h5; rw [if_pos h5] at h; simp at h
          · simp
        · rename_i h4
          rw [if_neg h4] at h
          split
          · rename_i h5; rw [if_pos h5] at h; simp at h
          · simp
theorem rmean_err {a b c v l : Int} (h : (Rmean a b c v l).2.2 ≠ 0) : (Rmean a b c v l).1 = 0 := by
  unfold Rmean at h ⊢
  split
  · rename_i h1; rw [if_pos h1] at h; simp at h
  · rename_i h1
    rw [if_neg h1] at h
    split
    · rename_i h2
      rw [if_pos h2] at h
      split
      · rfl
      · rename_i h3
        rw [if_neg h3] at h
        split
        · rfl
        · rename_i h4; rw [if_neg h4] at h; simp at h
    · rename_i h2
      rw [if_neg h2] at h
      split
      · rename_i h3
        rw [if_pos h3] at h
        split
        · rfl
        · rename_i h4; rw [if_neg h4] at h; simp at h
      · rename_i h3
        rw [if_neg h3] at h
        split
        · rename_i h4
          rw [if_pos h4] at h
          split
          · rfl
          · rename_i h5; rw [if_neg h5] at h; simp at h
        · rename_i h4
          rw [if_neg h4] at h
          split
          · rfl
          · rename_i h5; rw [if_neg h5] at h; simp at h
/-- The error of the arguments alone. -/
def Rarg (a b c v l : Int) : Int := if chkL true [a, b, c] ≠ 0 then chkL true [a, b, c] else if v < 1 ∨ 2147483651 < v ∨ l < 0 then 2 else 0
end Go.Proofs.Ytammacofhdbgcaa
