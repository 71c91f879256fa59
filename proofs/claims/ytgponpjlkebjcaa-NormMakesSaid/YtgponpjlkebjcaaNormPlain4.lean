/-
  Plain law: the reference's greatest count is the program's. No program in sight.
-/
import Derived.Test.YtgponpjlkebjcaaNormPlain3
namespace Go.Proofs.Ytgponpjlkebjcaa
open Go.RowKit
set_option linter.unusedSimpArgs false
set_option linter.unusedVariables false

theorem gf_amF {xs : List Int} (hr : rng xs = true) : ∀ k, k < xs.length → gf 0 (0, 0) (xs.take (k + 1)) = (((amF xs (k + 1) : Nat) : Int), xs.getD (amF xs (k + 1)) 0) := by
  intro k
  induction k with
  | zero =>
    intro hk
    have h0 := rng_get hr 0
    rw [gf_take_succ hk rfl]
    have e0 : amF xs (0 + 1) = 0 := by
      show (if xs.getD 0 0 < xs.getD 0 0 then 0 else 0) = 0
      split <;> rfl
    rw [e0, List.take_zero]
    show (if (0 : Int) < xs.getD 0 0 then (((0 : Nat) : Int), xs.getD 0 0) else (0, 0)) = _
    by_cases h : 0 < xs.getD 0 0
    · rw [if_pos h]
    · rw [if_neg h, show xs.getD 0 0 = 0 by omega]
      rfl
  | succ k ih =>
    intro hk
    rw [gf_take_succ hk rfl, ih (by omega)]
    have e : amF xs (k + 1 + 1) = if xs.getD (amF xs (k + 1)) 0 < xs.getD (k + 1) 0 then k + 1 else amF xs (k + 1) := rfl
    rw [e]
    simp only
    by_cases h : xs.getD (amF xs (k + 1)) 0 < xs.getD (k + 1) 0
    · rw [if_pos h, if_pos h]
    · rw [if_neg h, if_neg h]
theorem gr_amx {xs : List Int} (hr : rng xs = true) (h : 0 < xs.length) : (gr xs).1 = ((amx xs : Nat) : Int) := by
  have := gf_amF hr (xs.length - 1) (by omega)
  rw [show xs.length - 1 + 1 = xs.length by omega, List.take_length] at this
  unfold gr amx
  rw [this]
theorem base_cz (xs : List Int) (t : Int) (l : Nat) : cz (base xs t l) = ((occ 0 xs).length : Int) := by
  unfold base
  rw [cz_occ _ _ _ 0, ← occ_cut]
theorem base_ge {xs : List Int} {l : Nat} (hr : rng xs = true) (ht : 0 < xs.sum) (hl : l ≤ 12) (i : Nat) (hi : i < many xs) : -1 ≤ (base xs xs.sum l).getD i 0 := by
  rw [base_get xs _ l i hi]
  unfold prz
  have hm := many_le xs
  by_cases h : 0 < xs.getD i 0
  · rw [if_pos h]
    exact (prb_bd (l := l) (rng_get hr i) (sum_ge xs i hr (by omega)) ht hl).1
  · rw [if_neg h]
    omega
theorem decs_at (ps : List Int) (j m : Nat) (h : amx (decs j ps) = m) : decs (j + 1) ps = (decs j ps).set m ((decs j ps).getD m 0 - 1) := by
  rw [decs_succ]
  unfold dec
  rw [h]
end Go.Proofs.Ytgponpjlkebjcaa
