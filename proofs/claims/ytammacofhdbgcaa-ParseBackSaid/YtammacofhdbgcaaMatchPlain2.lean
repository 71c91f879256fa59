/-
  Plain facts on all matches of a place: they are right, their distances rise, one is the best. No program in sight.
-/
import Derived.Test.YtammacofhdbgcaaRows
import Derived.Test.YtammacofhdbgcaaGMatB
import Derived.Test.YtammacofhdbgcaaGMatA
import Derived.Test.YtammacofhdbgcaaGWin
import Derived.Test.YtammacofhdbgcaaGBase
import Derived.Deep.Light
import Derived.Shelf.Abstract
import Derived.Shelf.RegionOpen
import Derived.OwnWalkIn
import Derived.TacticsInMore
import Derived.LoopNIn
import Derived.LoopIn
namespace Go.Proofs.Ytammacofhdbgcaa
open Go.RowKit
set_option linter.unusedSimpArgs false
set_option linter.unusedVariables false

theorem cands_pair (s : ByteArray) (p e l d : Nat) : (cands s p e l d).Pairwise (· > ·) := by
  unfold cands
  split
  · exact List.Pairwise.nil
  · refine List.Pairwise.sublist (List.take_sublist _ _) ?_
    rw [List.pairwise_reverse]
    unfold plc
    refine List.Pairwise.sublist List.filter_sublist ?_
    exact List.pairwise_lt_range' _ (by decide)
theorem cands_mem (s : ByteArray) (p e l d : Nat) : ∀ q ∈ cands s p e l d, q < p ∧ p - q ≤ 2 ^ l ∧ fours s q = fours s p ∧ 4 ≤ e - p := by
  intro q hq
  unfold cands at hq
  split at hq
  · simp at hq
  · rename_i h
    have h2 := List.mem_of_mem_take hq
    simp only [List.mem_reverse, plc, List.mem_filter, List.mem_range'_1, beq_iff_eq] at h2
    have hw : wback p l ≤ p ∧ wback p l ≤ 2 ^ l := by unfold wback; omega
    obtain ⟨⟨h3, h4⟩, h5⟩ := h2
    exact ⟨by omega, by omega, h5, by omega⟩
theorem cands_len (s : ByteArray) (p e l d : Nat) : (cands s p e l d).length ≤ d := by
  unfold cands
  split
  · simp
  · simp
    omega
theorem getD_mem {α : Type} (l : List α) (i : Nat) (d : α) (h : i < l.length) : l.getD i d ∈ l := by
  simp [List.getD_eq_getElem?_getD, h]
theorem mchk_ok (s : ByteArray) (p e q : Nat) (l : Int) (hw : wchk s.size p e l = 0) (hq : q < p) (h1 : p - q ≤ 2 ^ l.toNat) (h2 : fours s q = fours s p) (h3 : 4 ≤ e - p) : mchk s p e l ((p : Int) - (q : Int)) (cmn s (e - p) q p : Nat) = 0 := by
  have h4 := (cmn_four s (e - p) q p).2 ⟨h3, h2⟩
  have h5 := cmn_le s (e - p) q p
  have h6 : ((2 ^ l.toNat : Nat) : Int) = (2 : Int) ^ l.toNat := by simp
  obtain ⟨a1, a2, a3, a4, a5, a6⟩ := wchk_ok hw
  unfold mchk
  rw [if_neg (by simpa using hw)]
  rw [if_neg (by omega)]
  have hcm : wcom s ((p : Int) - ((p : Int) - (q : Int))) (p : Int) (e : Int) = (((cmn s (e - p) q p : Nat) : Int), 0) := by
    rw [show (p : Int) - ((p : Int) - (q : Int)) = (q : Int) by omega]
    unfold wcom
    rw [if_neg (by omega), if_pos ⟨by omega, by omega, by omega, by omega⟩]
    rw [show ((e : Int) - (p : Int)).toNat = e - p by omega, Int.toNat_natCast, Int.toNat_natCast]
  rw [hcm]
  simp
theorem mbet_irr (a : Int × Int × Int × Int) : mbet a a = false := by
  unfold mbet
  simp
theorem mbet_asym (a b : Int × Int × Int × Int) (h : mbet a b = true) : mbet b a = false := by
  unfold mbet at h ⊢
  split at h <;> split <;> (try (simp at h ⊢; omega)) <;> (try (split at h <;> split <;> (simp at h ⊢; omega)))
  all_goals simp_all
theorem mbet_total (a b : Int × Int × Int × Int) (h : a.1 ≠ b.1) (h2 : mbet a b = false) : mbet b a = true := by
  obtain ⟨a1, a2, a3, a4⟩ := a
  obtain ⟨b1, b2, b3, b4⟩ := b
  unfold mbet at h2 ⊢
  simp only at h h2 ⊢
  by_cases e1 : a4 = b4
  · by_cases e2 : a3 = b3
    · rw [if_neg (by simpa using e1), if_neg (by simpa using e2)] at h2
      rw [if_neg (by simpa using e1.symm), if_neg (by simpa using e2.symm)]
      simp at h2 ⊢; omega
    · rw [if_neg (by simpa using e1), if_pos e2] at h2
      rw [if_neg (by simpa using e1.symm), if_pos (Ne.symm e2)]
      simp at h2 ⊢; omega
  · rw [if_pos e1] at h2
    rw [if_pos (Ne.symm e1)]
    simp at h2 ⊢; omega
theorem mbet_trans (a b c : Int × Int × Int × Int) (h : mbet a b = true) (h2 : mbet b c = true) : mbet a c = true := by
  obtain ⟨a1, a2, a3, a4⟩ := a
  obtain ⟨b1, b2, b3, b4⟩ := b
  obtain ⟨c1, c2, c3, c4⟩ := c
  have key : ∀ x1 x2 x3 x4 y1 y2 y3 y4 : Int, mbet (x1, x2, x3, x4) (y1, y2, y3, y4) = true ↔ (y4 < x4 ∨ (x4 = y4 ∧ (x3 < y3 ∨ (x3 = y3 ∧ x1 < y1)))) := by
    intro x1 x2 x3 x4 y1 y2 y3 y4
    unfold mbet
    simp only
    split
    · simp; omega
    · split
      · simp; omega
      · simp; omega
  rw [key] at h h2 ⊢
  omega
/-- The distances rise. -/
def Rising (ms : List (Int × Int × Int × Int)) : Prop := ∀ i j, i < j → j < ms.length → (ms.getD i (0, 0, 0, 0)).1 < (ms.getD j (0, 0, 0, 0)).1
theorem mbF_best (ms : List (Int × Int × Int × Int)) (hr : Rising ms) : ∀ n, 1 ≤ n → n ≤ ms.length → ∃ b, b < n ∧ mbF ms n = ms.getD b (0, 0, 0, 0) ∧ ∀ i, i < n → i ≠ b → mbet (ms.getD b (0, 0, 0, 0)) (ms.getD i (0, 0, 0, 0)) = true := by
  intro n
  induction n with
  | zero => intro h; omega
  | succ n ih =>
    intro _ hn
    by_cases h0 : n = 0
    · subst h0
      exact ⟨0, by omega, mbF_one ms, fun i hi hne => by omega⟩
    · obtain ⟨b, hb, h1, h2⟩ := ih (by omega) (by omega)
      have hd : (ms.getD n (0, 0, 0, 0)).1 ≠ (ms.getD b (0, 0, 0, 0)).1 := by
        have := hr b n hb (by omega)
        omega
      rw [mbF, h1]
      by_cases hc : mbet (ms.getD n (0, 0, 0, 0)) (ms.getD b (0, 0, 0, 0)) = true
      · rw [if_pos hc]
        refine ⟨n, by omega, rfl, fun i hi hne => ?_⟩
        by_cases hib : i = b
        · subst hib; exact hc
        · exact mbet_trans _ _ _ hc (h2 i (by omega) hib)
      · rw [if_neg hc]
        refine ⟨b, by omega, rfl, fun i hi hne => ?_⟩
        by_cases hin : i = n
        · subst hin; exact mbet_total _ _ hd (by simpa using hc)
        · exact h2 i (by omega) hne
theorem mofs_rising (s : ByteArray) (p e : Nat) (a b c li : Int) (l d : Nat) : Rising (mofs s p e a b c li (cands s p e l d)) := by
  intro i j hij hj
  rw [mofs_len] at hj
  rw [mofs_get _ _ _ _ _ _ _ _ _ (by omega), mofs_get _ _ _ _ _ _ _ _ _ hj]
  have hp := List.pairwise_iff_getElem.1 (cands_pair s p e l d) i j (by omega) hj hij
  have e1 : (cands s p e l d).getD i 0 = (cands s p e l d)[i]'(by omega) := by simp [List.getD_eq_getElem?_getD, show i < (cands s p e l d).length by omega]
  have e2 : (cands s p e l d).getD j 0 = (cands s p e l d)[j]'hj := by simp [List.getD_eq_getElem?_getD, hj]
  rw [e1, e2]
  unfold mof
  simp only
  omega
/-- The best of all: where it lies, and that it is better than all others. -/
theorem best_all (s : ByteArray) (p e : Nat) (a b c li : Int) (l d : Nat) (h : 0 < (cands s p e l d).length) :
    ∃ k, k < (cands s p e l d).length ∧ mbZ (mofs s p e a b c li (cands s p e l d)) (mofs s p e a b c li (cands s p e l d)).length = (mofs s p e a b c li (cands s p e l d)).getD k (0, 0, 0, 0) ∧
      ∀ i, i < (cands s p e l d).length → i ≠ k → mbet ((mofs s p e a b c li (cands s p e l d)).getD k (0, 0, 0, 0)) ((mofs s p e a b c li (cands s p e l d)).getD i (0, 0, 0, 0)) = true := by
  obtain ⟨k, h1, h2, h3⟩ := mbF_best _ (mofs_rising s p e a b c li l d) (mofs s p e a b c li (cands s p e l d)).length (by rw [mofs_len]; omega) (Nat.le_refl _)
  rw [mofs_len] at h1 h3
  refine ⟨k, h1, ?_, h3⟩
  unfold mbZ
  rw [if_neg (by rw [mofs_len]; omega)]
  exact h2
end Go.Proofs.Ytammacofhdbgcaa
