/-
  No lengths are better: what LengthLeast asks. No program in sight.
-/
import Derived.Test.YtmfgkimbehkdeaaHufWholeP
namespace Go.Proofs.Ytmfgkimbehkdeaa
open Go.RowKit
set_option linter.unusedSimpArgs false
set_option linter.unusedVariables false
theorem rChk2_zero {xs : List Int} (h : rChk2 xs = 0) : xs.length ≤ 256 ∧ okR xs = true ∧ roomL (nn xs) = 2048 := by
  unfold rChk2 at h
  by_cases h0 : (rRoom xs).2 = 0
  · obtain ⟨r1, r2, r3⟩ := rRoom_zero h0
    refine ⟨r1, r2, ?_⟩
    rw [if_neg (by simp [h0])] at h
    split at h
    · simp at h
    · split at h
      · simp at h
      · rename_i h2
        rw [r3] at h2
        simp at h2
        omega
  · rw [if_pos h0] at h
    exact absurd h h0
/-- No lengths that are complete have a lesser total. -/
theorem total_least {L : List Nat} {X : List Int} {v : Int} (h2 : 2 ≤ (leaves 0 L).length) (h : rTotal (ints L) X = (v, 0)) : ((totL L (depthsL L) : Nat) : Int) ≤ v := by
  unfold rTotal at h
  by_cases c1 : rChk2 X = 0
  · rw [if_neg (by simp [c1])] at h
    by_cases c2 : cchk (ints L) = 0
    · rw [if_neg (by simp [c2])] at h
      by_cases c3 : okC (ints L) X = true
      · rw [if_pos c3] at h
        obtain ⟨r1, r2, r3⟩ := rChk2_zero c1
        unfold okC at c3
        rw [ints_nn, covB_iff] at c3
        rw [ints_nn] at h
        have h11 : ∀ x ∈ nn X, x ≤ 11 := by
          intro d hd
          obtain ⟨x, hx, rfl⟩ := List.mem_map.1 hd
          unfold okR at r2
          rw [List.all_eq_true] at r2
          have := r2 x hx
          simp at this
          omega
        have := least_total h2 c3 h11 (by omega)
        split at h
        · simp at h
        · simp at h
          omega
      · rw [if_neg c3] at h
        simp at h
    · rw [if_pos c2] at h
      simp at h
      exact absurd h.2 c2
  · rw [if_pos c1] at h
    simp at h
    exact absurd h.2 c1
/-- The total with the lengths of counts of the same symbols. -/
theorem total_of {L O : List Nat} (hM : Made L) (ha : Alike L O) (hs : O.sum ≤ 1099511627776) :
    rLen (ints O) = (ints (ofL O.sum O), 0) ∧ (ofL O.sum O).length = L.length ∧ rTotal (ints L) (ints (ofL O.sum O)) = (((totL L (ofL O.sum O) : Nat) : Int), 0) := by
  have hl := hM.len
  have hO : 2 ≤ (leaves 0 O).length := by rw [← ha.leaves 0]; exact hM.two
  have hOl : O.length = L.length := ha.1.symm
  obtain ⟨w1, w2, w3, w4, w5⟩ := of_whole (k := O.sum) hO (by omega) (Nat.le_refl _)
  obtain ⟨c1, c2, c3⟩ := coded_of ha hM.two (by omega) (Nat.le_refl O.sum)
  refine ⟨rLen_ints (by omega) hs hO, by omega, ?_⟩
  have hc := rChk2_ints (l := ofL O.sum O) (by omega) w2 w3 w4
  have hk : cchk (ints L) = 0 := by
    have := chkL_ints (L := L) (by omega) (by have := hM.sum; omega) hM.two
    unfold chkL at this
    split at this
    · assumption
    · rename_i hh; exact absurd this hh
  have ht := totL_le L (ofL O.sum O) 11 w2
  unfold rTotal okC
  rw [if_neg (by simp [hc]), if_neg (by simp [hk]), ints_nn, ints_nn, if_pos ((covB_iff _ _).2 c1), if_neg (by have := hM.sum; omega)]
/-- A count of another list: of a symbol that occurs. -/
def otF (L : List Nat) (Y : List Int) (i : Nat) : Nat := if 0 < L.getD i 0 then 1 + ((Y.getD i 0) % 1000).toNat else 0
def otL (L : List Nat) (Y : List Int) (k : Nat) : List Nat := (List.range k).map (otF L Y)
def evL (L : List Nat) (k : Nat) : List Nat := (L.take k).map (min · 1)
theorem otL_succ (L : List Nat) (Y : List Int) (k : Nat) : otL L Y (k + 1) = otL L Y k ++ [otF L Y k] := by
  unfold otL
  rw [List.range_succ, List.map_append]
  rfl
theorem evL_succ {L : List Nat} {k c : Nat} (h : L[k]? = some c) : evL L (k + 1) = evL L k ++ [min c 1] := by
  unfold evL
  rw [List.take_add_one, h]
  simp
theorem otF_le (L : List Nat) (Y : List Int) (i : Nat) : otF L Y i ≤ 1000 := by
  unfold otF
  split
  · have : (Y.getD i 0) % 1000 < 1000 := Int.emod_lt_of_pos _ (by omega)
    omega
  · omega
theorem otL_alike (L : List Nat) (Y : List Int) : Alike L (otL L Y L.length) := by
  refine ⟨by simp [otL], fun s => ?_⟩
  unfold otL
  by_cases hs : s < L.length
  · rw [List.getElem?_map, List.getElem?_range hs]
    simp [otF, hs]
  · rw [List.getElem?_eq_none (by omega), List.getElem?_eq_none (by simp; omega)]
theorem evL_alike (L : List Nat) : Alike L (evL L L.length) := by
  refine ⟨by simp [evL], fun s => ?_⟩
  unfold evL
  rw [List.take_length, List.getElem?_map]
  cases L[s]? with
  | none => simp
  | some c => simp
theorem otL_sum (L : List Nat) (Y : List Int) (h : L.length ≤ 22) : (otL L Y L.length).sum ≤ 1099511627776 := by
  have := sum_le_mul (otL L Y L.length) 1000 (fun c hc => by
    obtain ⟨i, _, rfl⟩ := List.mem_map.1 hc
    exact otF_le L Y i)
  have hl : (otL L Y L.length).length = L.length := by simp [otL]
  rw [hl] at this
  omega
theorem evL_sum (L : List Nat) (h : L.length ≤ 22) : (evL L L.length).sum ≤ 1099511627776 := by
  have := sum_le_mul (evL L L.length) 1 (fun c hc => by
    obtain ⟨i, _, rfl⟩ := List.mem_map.1 hc
    exact Nat.min_le_right _ _)
  have hl : (evL L L.length).length = L.length := by simp [evL]
  rw [hl] at this
  omega
/-- What LengthLeast asks. -/
structure Least (L l d p q : List Nat) (Y : List Int) (best np nq : Int) : Prop where
  ofs : rLen (ints L) = (ints l, 0)
  deps : rDep (ints L) = (ints d, 0)
  tot : rTotal (ints L) (ints l) = (best, 0)
  len1 : l.length = L.length
  len2 : d.length = L.length
  low : (∀ x ∈ d, x ≤ 11) → ∀ X v, rTotal (ints L) X = (v, 0) → best ≤ v
  other : rLen (ints (otL L Y L.length)) = (ints p, 0)
  even : rLen (ints (evL L L.length)) = (ints q, 0)
  lenp : p.length = L.length
  lenq : q.length = L.length
  totp : rTotal (ints L) (ints p) = (np, 0)
  totq : rTotal (ints L) (ints q) = (nq, 0)
theorem least_of {L : List Nat} (h : Made L) (Y : List Int) : ∃ l d p q best np nq, Least L l d p q Y best np nq := by
  have hs := h.sum
  have hl := h.len
  have hL := total_of h (Alike.refl L) (by omega)
  have hO := total_of h (otL_alike L Y) (otL_sum L Y hl)
  have hE := total_of h (evL_alike L) (evL_sum L hl)
  refine ⟨_, _, _, _, _, _, _, hL.1, rDep_ints (by omega) (by omega) h.two, hL.2.2, hL.2.1, (depths_alike h.two).1, ?_, hO.1, hE.1, hO.2.1, hE.2.1, hO.2.2, hE.2.2⟩
  intro hd X v hX
  rw [of_low hd]
  exact total_least h.two hX
end Go.Proofs.Ytmfgkimbehkdeaa
