/-
  Plain facts: bytes behind the end, and before what the window reaches, do not matter for matches. No program in sight.
-/
import Derived.Test.YtammacofhdbgcaaRows
import Derived.Test.YtammacofhdbgcaaMatchPlain2
import Derived.Test.YtammacofhdbgcaaGBase
import Derived.Deep.Light
import Derived.Shelf.Abstract
import Derived.Shelf.RegionOpen
import Derived.OwnWalkIn
import Derived.TacticsInMore
import Derived.LoopNIn
import Derived.LoopIn
namespace Go.Proofs.Ytammacofhdbgcaa
open Go.RowKit
set_option linter.unusedSimpArgs false
set_option linter.unusedVariables false

theorem toList_app' (a b : ByteArray) : (a ++ b).data.toList = a.data.toList ++ b.data.toList := by simp
theorem byt_app_l' (a b : ByteArray) (i : Nat) (h : i < a.size) : byt (a ++ b) i = byt a i := by
  have h2 : i < a.data.toList.length := by simpa using h
  rw [byt_eq, byt_eq, toList_app', List.getD_eq_getElem?_getD, List.getD_eq_getElem?_getD, List.getElem?_append_left h2]
theorem byt_app_r' (a b : ByteArray) (i : Nat) : byt (a ++ b) (a.size + i) = byt b i := by
  have h2 : a.data.toList.length = a.size := by simp
  rw [byt_eq, byt_eq, toList_app', List.getD_eq_getElem?_getD, List.getD_eq_getElem?_getD, List.getElem?_append_right (by omega), h2, show a.size + i - a.size = i by omega]
theorem byt_ext' (a : ByteArray) (e i : Nat) (h : i < e) : byt (a.extract 0 e) i = byt a i := by
  rw [byt_eq, byt_eq]
  simp only [ByteArray.data_extract, Array.toList_extract]
  simp only [List.getD_eq_getElem?_getD]
  simp [List.getElem?_take, h]
theorem cmn_shift (s t : ByteArray) (D : Nat) : ∀ f q p, (∀ i, i < f → byt t (D + (q + i)) = byt s (q + i)) → (∀ i, i < f → byt t (D + (p + i)) = byt s (p + i)) → cmn t f (D + q) (D + p) = cmn s f q p := by
  intro f
  induction f with
  | zero => intro q p _ _; rfl
  | succ f ih =>
    intro q p h1 h2
    have a1 := h1 0 (by omega)
    have a2 := h2 0 (by omega)
    simp only [Nat.add_zero] at a1 a2
    have a3 := ih (q + 1) (p + 1) (fun i hi => by have := h1 (i + 1) (by omega); rwa [show q + (i + 1) = q + 1 + i by omega] at this) (fun i hi => by have := h2 (i + 1) (by omega); rwa [show p + (i + 1) = p + 1 + i by omega] at this)
    unfold cmn
    rw [a1, a2, show D + q + 1 = D + (q + 1) by omega, show D + p + 1 = D + (p + 1) by omega, a3]
theorem cands_lo (s : ByteArray) (p e l d : Nat) : ∀ q ∈ cands s p e l d, p - wback p l ≤ q := by
  intro q hq
  unfold cands at hq
  split at hq
  · simp at hq
  · have h2 := List.mem_of_mem_take hq
    simp only [List.mem_reverse, plc, List.mem_filter, List.mem_range'_1, beq_iff_eq] at h2
    exact h2.1.1
/-- Only bytes from m on and before the end matter, if the window reaches no farther than m. -/
theorem mofs_tail (s t : ByteArray) (m p e : Nat) (a b c li : Int) (l d : Nat) (hpe : p ≤ e) (hm : m ≤ p - wback p l) (h : ∀ i, m ≤ i → i < e → byt t i = byt s i) :
    cands t p e l d = cands s p e l d ∧ mofs t p e a b c li (cands t p e l d) = mofs s p e a b c li (cands s p e l d) := by
  have hw : wback p l ≤ p := by unfold wback; omega
  have h1 : cands t p e l d = cands s p e l d := by
    unfold cands
    by_cases he : e - p < 4
    · rw [if_pos he, if_pos he]
    · rw [if_neg he, if_neg he]
      congr 2
      have := plc_shift s t 0 p (p - wback p l) (wback p l) (by
        rw [Nat.zero_add]
        exact fours_of fun i hi => h _ (by omega) (by omega)) (fun q hq1 hq2 => by
        rw [Nat.zero_add]
        exact fours_of fun i hi => h _ (by omega) (by omega))
      rw [Nat.zero_add, Nat.zero_add] at this
      rw [this]
      simp
  refine ⟨h1, ?_⟩
  rw [h1]
  unfold mofs
  apply List.map_congr_left
  intro q hq
  have h2 := cands_lo s p e l d q hq
  have h3 := (cands_mem s p e l d q hq).1
  have h4 := cmn_shift s t 0 (e - p) q p (fun i hi => by rw [Nat.zero_add]; exact h _ (by omega) (by omega)) (fun i hi => by rw [Nat.zero_add]; exact h _ (by omega) (by omega))
  rw [Nat.zero_add, Nat.zero_add] at h4
  unfold mof
  rw [h4]
/-- Bytes ahead, and the place moved by as many: the same matches come first. -/
theorem mofs_far (s t : ByteArray) (D p e : Nat) (a b c li : Int) (d : Nat) (hp : p ≤ 1024) (hD : 1024 ≤ D) (hpe : p ≤ e) (h : ∀ i, i < e → byt t (D + i) = byt s i) :
    (cands s p e 10 d).length ≤ (cands t (D + p) (D + e) 10 d).length ∧ (mofs t (D + p) (D + e) a b c li (cands t (D + p) (D + e) 10 d)).take (mofs s p e a b c li (cands s p e 10 d)).length = mofs s p e a b c li (cands s p e 10 d) := by
  have w1 : wback p 10 = p := by unfold wback; omega
  have w2 : wback (D + p) 10 = 1024 := by unfold wback; omega
  by_cases he : e - p < 4
  · have e1 : cands s p e 10 d = [] := by unfold cands; rw [if_pos he]
    rw [e1]
    simp [mofs]
  · have hA : cands s p e 10 d = ((plc s p 0 p).reverse).take d := by unfold cands; rw [if_neg he, w1, Nat.sub_self]
    have hB : cands t (D + p) (D + e) 10 d = (((plc s p 0 p).reverse).map (D + ·) ++ (plc t (D + p) (D + p - 1024) (1024 - p)).reverse).take d := by
      unfold cands
      rw [if_neg (by omega), w2]
      congr 1
      have h1 := plc_app t (D + p) (D + p - 1024) (1024 - p) p
      rw [show 1024 - p + p = 1024 by omega, show D + p - 1024 + (1024 - p) = D by omega] at h1
      have h2 := plc_shift s t D p 0 p (fours_of fun i hi => by rw [show D + p + i = D + (p + i) by omega]; exact h _ (by omega)) (fun q _ hq => fours_of fun i hi => by rw [show D + q + i = D + (q + i) by omega]; exact h _ (by omega))
      rw [Nat.add_zero] at h2
      rw [h1, h2, List.reverse_append, List.map_reverse]
    have hlen : (cands s p e 10 d).length = min d (plc s p 0 p).length := by rw [hA]; simp
    have hT : (cands t (D + p) (D + e) 10 d).take (cands s p e 10 d).length = (cands s p e 10 d).map (D + ·) := by
      rw [hlen, hB, hA, List.take_take]
      rw [Nat.min_eq_left (Nat.min_le_left _ _)]
      rw [List.take_append_of_le_length (by simp; omega)]
      rw [← List.map_take]
      congr 1
      by_cases hd : d ≤ (plc s p 0 p).length
      · rw [Nat.min_eq_left hd]
      · rw [Nat.min_eq_right (by omega), List.take_of_length_le (by simp), List.take_of_length_le (by simp; omega)]
    refine ⟨by rw [hlen, hB]; simp; omega, ?_⟩
    rw [mofs_len, mofs_take, hT]
    unfold mofs
    rw [List.map_map]
    apply List.map_congr_left
    intro q hq
    have h3 := (cands_mem s p e 10 d q hq).1
    have h4 := cmn_shift s t D (e - p) q p (fun i hi => h _ (by omega)) (fun i hi => h _ (by omega))
    simp only [Function.comp]
    unfold mof
    rw [show D + e - (D + p) = e - p by omega, h4, show ((D + p : Nat) : Int) - ((D + q : Nat) : Int) = (p : Int) - (q : Int) by omega]
end Go.Proofs.Ytammacofhdbgcaa
