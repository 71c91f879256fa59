/-
  With no patience a match is taken where one is first found: plain facts. No program in sight.
-/
import Derived.Test.YtammacofhdbgcaaRows
import Derived.Test.YtammacofhdbgcaaParsePlain2
import Derived.Test.YtammacofhdbgcaaGBase
import Derived.Deep.Light
import Derived.Shelf.Abstract
import Derived.Shelf.RegionOpen
import Derived.OwnWalkIn
import Derived.TacticsInMore
import Derived.LoopNIn
import Derived.LoopIn
namespace Go.Proofs.Ytammacofhdbgcaa
open Go.RowKit
set_option linter.unusedSimpArgs false
set_option linter.unusedVariables false

theorem rat_found {s : ByteArray} {p e l dp a b c li : Int} (g1 : wchk s.size p e l = 0) (g2 : chkL true [a, b, c] = 0) (g3 : ¬ (dp < 1 ∨ 64 < dp ∨ li < 0)) : (Rat s p e l dp a b c li).2 = (decide (0 < (cands s p.toNat e.toNat l.toNat dp.toNat).length), 0) := by
  have h : Rall s p e l dp a b c li = (mofs s p.toNat e.toNat a b c li (cands s p.toNat e.toNat l.toNat dp.toNat), 0) := by
    unfold Rall
    rw [if_neg (by simpa using g1), if_neg (by simpa using g2), if_neg g3]
  unfold Rat
  rw [h]
  dsimp only
  rw [if_pos rfl, mofs_len]
theorem pstep_skip (s : ByteArray) (e : Nat) (l dp a b c : Int) : ∀ f p li, e ≤ p + f → ∀ q, p ≤ q → q < (pstep s e l dp a b c 0 f p li).1 → q < e ∧ (pat s e l dp a b c q (li + ((q - p : Nat) : Int))).2 = false ∨ e ≤ q := by
  intro f
  induction f with
  | zero => intro p li hf q h1 h2; exact .inr (by omega)
  | succ f ih =>
    intro p li hf q h1 h2
    unfold pstep at h2
    by_cases hpe : p < e
    · rw [if_pos hpe] at h2
      by_cases hx : (pat s e l dp a b c p li).2 = false
      · rw [if_pos hx] at h2
        by_cases hq : q = p
        · subst hq
          refine .inl ⟨hpe, ?_⟩
          rw [show q - q = 0 by omega]
          simpa using hx
        · have := ih (p + 1) (li + 1) (by omega) q (by omega) h2
          rw [show li + 1 + ((q - (p + 1) : Nat) : Int) = li + ((q - p : Nat) : Int) by omega] at this
          exact this
      · rw [if_neg hx, if_pos (show plater s e l dp a b c 0 p li (pat s e l dp a b c p li).1.2.2.2 = 0 from rfl)] at h2
        dsimp only at h2
        omega
    · rw [if_neg hpe] at h2
      dsimp only at h2
      exact .inr (by omega)
theorem eager_rat (s : ByteArray) (l dp : Int) (hd1 : 1 ≤ dp) (hd2 : dp ≤ 64) (hl1 : 10 ≤ l) (hl2 : l ≤ 27) (hs : s.size ≤ 1048576) (qs : List (Int × Int × Int)) (t : ByteArray) (r : Int × Int × Int) (hB : pblock s 0 s.size l dp 0 0 0 0 = (qs, t, r)) :
    ∃ P : Nat → Nat, P 0 = 0 ∧ (∀ i, i ≤ qs.length → P i ≤ s.size) ∧ (∀ i, i < qs.length → ∃ (x n : Nat) (v : Int), qs.getD i (0, 0, 0) = ((x : Int), (n : Int), v) ∧ 1 ≤ n ∧ P (i + 1) = P i + x + n ∧ P i + x + n ≤ s.size ∧ ∀ q, P i ≤ q → q < P i + x → (Rat s q s.size l dp 0 0 0 ((q : Int) - (P i : Int))).2 = (false, 0)) ∧
      (∀ q, P qs.length ≤ q → q < s.size → (Rat s q s.size l dp 0 0 0 ((q : Int) - (P qs.length : Int))).2 = (false, 0)) := by
  have hc : chkL true [0, 0, 0] = 0 := by decide
  obtain ⟨g1, g2, g3⟩ := pS_ok s 0 s.size l dp 0 0 0 0 (by omega) (Nat.le_refl _) hs hc
  unfold pblock at hB
  have hq0 := (Prod.mk.inj hB).1
  have hqn : qs.length = pN s 0 s.size l dp 0 0 0 0 := by rw [← hq0]; simp
  have hget : ∀ i, i < qs.length → qs.getD i (0, 0, 0) = pQ s 0 s.size l dp 0 0 0 0 i := fun i hi => by
    rw [← hq0]
    simp [List.getD_eq_getElem?_getD, show i < pN s 0 s.size l dp 0 0 0 0 by omega]
  have key : ∀ (a b c : Int) (P q : Nat), chkL true [a, b, c] = 0 → P ≤ q → q < s.size → (pat s s.size l dp a b c q (0 + ((q - P : Nat) : Int))).2 = false → (Rat s q s.size l dp 0 0 0 ((q : Int) - (P : Int))).2 = (false, 0) := by
    intro a b c P q h1 h2 h3 h4
    have w0 : wchk s.size (q : Int) (s.size : Int) l = 0 := wchk_0 (by omega) (by unfold wOk; omega)
    rw [rat_found w0 hc (by omega)]
    unfold pat at h4
    rw [rat_found w0 h1 (by omega)] at h4
    simp only [beq_self_eq_true, Bool.and_true] at h4
    rw [h4]
  refine ⟨fun i => (pS s 0 s.size l dp 0 0 0 0 i).1, rfl, fun i hi => (g2 i (by omega)).1.1, ?_, ?_⟩
  · intro i hi
    obtain ⟨o1, _⟩ := g2 i (by omega)
    obtain ⟨x, d, n, v, y, z, k1, k2, k3, k4, k5, k6, k7, k8, k9, k10, k11, k12, k13, k14⟩ := pnx_ok s s.size l dp 0 _ o1 (g1 i (by omega))
    refine ⟨x, n, v, by rw [hget i hi]; exact k1, by omega, ?_, k7, ?_⟩
    · show (pS s 0 s.size l dp 0 0 0 0 (i + 1)).1 = _
      have : pS s 0 s.size l dp 0 0 0 0 (i + 1) = (pnx s s.size l dp 0 (pS s 0 s.size l dp 0 0 0 0 i)).2.1 := rfl
      rw [this, k2]
    · intro q h1 h2
      dsimp only at h1 h2
      have h20 := h2
      rw [← k14] at h2
      unfold pnext at h2
      rcases pstep_skip s s.size l dp _ _ _ _ _ 0 (by have := o1.1; omega) q h1 h2 with ⟨h3, h4⟩ | h3
      · exact key _ _ _ _ q o1.2.2.2 h1 h3 h4
      · omega
  · intro q h1 h2
    rw [hqn] at h1 ⊢
    dsimp only at h1
    obtain ⟨o1, _⟩ := g2 _ (Nat.le_refl (pN s 0 s.size l dp 0 0 0 0))
    have h5 : (pnext s s.size l dp (pS s 0 s.size l dp 0 0 0 0 (pN s 0 s.size l dp 0 0 0 0)).2.1 (pS s 0 s.size l dp 0 0 0 0 (pN s 0 s.size l dp 0 0 0 0)).2.2.1 (pS s 0 s.size l dp 0 0 0 0 (pN s 0 s.size l dp 0 0 0 0)).2.2.2 0 (pS s 0 s.size l dp 0 0 0 0 (pN s 0 s.size l dp 0 0 0 0)).1 0).2.2 = false := g3
    have h6 := pnext_none_end s s.size l dp _ _ _ 0 _ _ _ h5
    have h7 : q < (pstep s s.size l dp (pS s 0 s.size l dp 0 0 0 0 (pN s 0 s.size l dp 0 0 0 0)).2.1 (pS s 0 s.size l dp 0 0 0 0 (pN s 0 s.size l dp 0 0 0 0)).2.2.1 (pS s 0 s.size l dp 0 0 0 0 (pN s 0 s.size l dp 0 0 0 0)).2.2.2 0 (s.size - (pS s 0 s.size l dp 0 0 0 0 (pN s 0 s.size l dp 0 0 0 0)).1) (pS s 0 s.size l dp 0 0 0 0 (pN s 0 s.size l dp 0 0 0 0)).1 0).1 := by rw [h6]; exact h2
    rcases pstep_skip s s.size l dp _ _ _ _ _ 0 (by have := o1.1; omega) q h1 h7 with ⟨h3, h4⟩ | h3
    · exact key _ _ _ _ q o1.2.2.2 h1 h3 h4
    · omega
end Go.Proofs.Ytammacofhdbgcaa
