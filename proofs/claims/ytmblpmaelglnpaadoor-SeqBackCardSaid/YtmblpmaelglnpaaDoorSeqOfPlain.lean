/-
  What sequences are made of lists of numbers, and that executing them gives the bytes again. No program in sight.
-/
import Derived.Test.YtmblpmaelglnpaaDoorRows
import Derived.Test.YtmblpmaelglnpaaDoorSeqPartsPlain
import Derived.Test.YtmblpmaelglnpaaDoorGBase
namespace Go.Proofs.YtmblpmaelglnpaaDoor
open Go.RowKit
set_option linter.unusedSimpArgs false
set_option linter.unusedVariables false

section
variable (all : ByteArray) (n0 : Nat) (ls ds ms : List Int) (r : Int × Int × Int)
/-- Where one begins. -/
def oAt : Nat → Nat
  | 0 => n0
  | i + 1 => oAt i + (ls.getD i 0).toNat + (ms.getD i 0).toNat
/-- The history before one. -/
def oH : Nat → Int × Int × Int
  | 0 => r
  | i + 1 => (Rask (oH i).1 (oH i).2.1 (oH i).2.2 (Rval (oH i).1 (oH i).2.1 (oH i).2.2 (ds.getD i 0) (ls.getD i 0)).1 (ls.getD i 0)).2.1
def oV (i : Nat) : Int := (Rval (oH ls ds r i).1 (oH ls ds r i).2.1 (oH ls ds r i).2.2 (ds.getD i 0) (ls.getD i 0)).1
def oQ (i : Nat) : Int × Int × Int := (ls.getD i 0, ms.getD i 0, oV ls ds r i)
def oQs (n : Nat) : List (Int × Int × Int) := (List.range n).map (oQ ls ds ms r)
/-- The literals before one. -/
def oL : Nat → ByteArray
  | 0 => ⟨#[]⟩
  | i + 1 => oL i ++ all.extract (oAt n0 ls ms i) (oAt n0 ls ms i + (ls.getD i 0).toNat)
/-- Is the match what stands before it? -/
def oFit (i : Nat) : Bool := decide ((ds.getD i 0).toNat ≤ oAt n0 ls ms i + (ls.getD i 0).toNat) && (List.range (ms.getD i 0).toNat).all fun k => byt all (oAt n0 ls ms i + (ls.getD i 0).toNat + k) == byt all (oAt n0 ls ms i + (ls.getD i 0).toNat + k - (ds.getD i 0).toNat)
/-- Are the lists right? -/
def oR : Bool := decide (ds.length = ls.length) && decide (ms.length = ls.length) && ls.all (fun x => decide (0 ≤ x) && decide (x ≤ 131072)) && ds.all (fun x => decide (1 ≤ x) && decide (x ≤ 2147483648)) && ms.all (fun x => decide (3 ≤ x) && decide (x ≤ 131074))
end
/-- What is made: sequences, literals, a history, an error. -/
def Rof (before out : ByteArray) (ls ds ms : List Int) (a b c : Int) : List (Int × Int × Int) × ByteArray × (Int × Int × Int) × Int :=
  if oR ls ds ms = false then ([], ⟨#[]⟩, (0, 0, 0), 2)
  else if 98303 < ls.length then ([], ⟨#[]⟩, (0, 0, 0), 6)
  else if chkL true [a, b, c] ≠ 0 then ([], ⟨#[]⟩, (0, 0, 0), 10)
  else if 1048576 < before.size ∨ 131072 < out.size then ([], ⟨#[]⟩, (0, 0, 0), 4)
  else if before.size + out.size < oAt before.size ls ms ls.length then ([], ⟨#[]⟩, (0, 0, 0), 24)
  else if (List.range ls.length).all (oFit (before ++ out) before.size ls ds ms) = false then ([], ⟨#[]⟩, (0, 0, 0), 25)
  else (oQs ls ds ms (a, b, c) ls.length, oL (before ++ out) before.size ls ms ls.length ++ (before ++ out).extract (oAt before.size ls ms ls.length) (before ++ out).size, oH ls ds (a, b, c) ls.length, 0)
theorem all_getD {p : Int → Bool} {l : List Int} (h : l.all p = true) {i : Nat} (hi : i < l.length) : p (l.getD i 0) = true := by
  rw [List.all_eq_true] at h
  rw [List.getD_eq_getElem?_getD, List.getElem?_eq_getElem hi]
  exact h _ (List.getElem_mem hi)
theorem oR_get {ls ds ms : List Int} (h : oR ls ds ms = true) : ds.length = ls.length ∧ ms.length = ls.length ∧ ∀ i, i < ls.length → 0 ≤ ls.getD i 0 ∧ ls.getD i 0 ≤ 131072 ∧ 1 ≤ ds.getD i 0 ∧ ds.getD i 0 ≤ 2147483648 ∧ 3 ≤ ms.getD i 0 ∧ ms.getD i 0 ≤ 131074 := by
  unfold oR at h
  simp only [Bool.and_eq_true, decide_eq_true_eq] at h
  obtain ⟨⟨⟨⟨h1, h2⟩, h3⟩, h4⟩, h5⟩ := h
  refine ⟨h1, h2, fun i hi => ?_⟩
  have g1 := all_getD h3 hi
  have g2 := all_getD h4 (i := i) (by omega)
  have g3 := all_getD h5 (i := i) (by omega)
  simp only [Bool.and_eq_true, decide_eq_true_eq] at g1 g2 g3
  omega
theorem oAt_mono (n0 : Nat) (ls ms : List Int) (i : Nat) : ∀ j, oAt n0 ls ms i ≤ oAt n0 ls ms (i + j) := by
  intro j
  induction j with
  | zero => exact Nat.le_refl _
  | succ j ih => rw [show i + (j + 1) = (i + j) + 1 from rfl, oAt]; omega
theorem oQs_len (ls ds ms : List Int) (r : Int × Int × Int) (n : Nat) : (oQs ls ds ms r n).length = n := by unfold oQs; simp
theorem oQs_succ (ls ds ms : List Int) (r : Int × Int × Int) (n : Nat) : oQs ls ds ms r (n + 1) = oQs ls ds ms r n ++ [oQ ls ds ms r n] := by
  unfold oQs; rw [List.range_succ, List.map_append]; rfl
theorem oQs_get (ls ds ms : List Int) (r : Int × Int × Int) {n i : Nat} (h : i < n) : (oQs ls ds ms r n).getD i (0, 0, 0) = oQ ls ds ms r i := by
  unfold oQs; simp [List.getD_eq_getElem?_getD, h]
theorem rag_val {a b c d l : Int} (h : chkL true [a, b, c] = 0) (hd : 1 ≤ d) (hd2 : d ≤ 2147483648) (hl : 0 ≤ l) :
    1 ≤ (Rval a b c d l).1 ∧ (Rval a b c d l).1 ≤ 2147483651 ∧ (Rask a b c (Rval a b c d l).1 l).1 = d ∧ (Rask a b c (Rval a b c d l).1 l).2.2 = 0 ∧
      chkL true [(Rask a b c (Rval a b c d l).1 l).2.1.1, (Rask a b c (Rval a b c d l).1 l).2.1.2.1, (Rask a b c (Rval a b c d l).1 l).2.1.2.2] = 0 := by
  obtain ⟨v, h1, h2, h3, h4, h5, h6⟩ := rval_ok h hd hd2 hl
  obtain ⟨g1, g2, g3, g4, _⟩ := rmean_ok h h2 (by omega) hl h5
  rw [h1, h6]
  exact ⟨h2, by dsimp only; omega, h4, h5, g4⟩
theorem oH_ok {ls ds ms : List Int} {a b c : Int} (hR : oR ls ds ms = true) (hc : chkL true [a, b, c] = 0) : ∀ i, i ≤ ls.length → chkL true [(oH ls ds (a, b, c) i).1, (oH ls ds (a, b, c) i).2.1, (oH ls ds (a, b, c) i).2.2] = 0 := by
  intro i
  induction i with
  | zero => intro _; exact hc
  | succ i ih =>
    intro hi
    obtain ⟨q1, q2, q3, q4, q5, q6⟩ := (oR_get hR).2.2 i (by omega)
    simp only [oH]
    exact (rag_val (ih (by omega)) q3 q4 q1).2.2.2.2
theorem oV_ok {ls ds ms : List Int} {a b c : Int} (hR : oR ls ds ms = true) (hc : chkL true [a, b, c] = 0) (i : Nat) (hi : i < ls.length) :
    1 ≤ oV ls ds (a, b, c) i ∧ oV ls ds (a, b, c) i ≤ 2147483651 ∧ (Rask (oH ls ds (a, b, c) i).1 (oH ls ds (a, b, c) i).2.1 (oH ls ds (a, b, c) i).2.2 (oV ls ds (a, b, c) i) (ls.getD i 0)).1 = ds.getD i 0 ∧
      (Rask (oH ls ds (a, b, c) i).1 (oH ls ds (a, b, c) i).2.1 (oH ls ds (a, b, c) i).2.2 (oV ls ds (a, b, c) i) (ls.getD i 0)).2.2 = 0 := by
  obtain ⟨q1, q2, q3, q4, q5, q6⟩ := (oR_get hR).2.2 i hi
  obtain ⟨g1, g2, g3, g4, g5⟩ := rag_val (oH_ok hR hc i (by omega)) q3 q4 q1
  exact ⟨g1, g2, g3, g4⟩
theorem oQs_chk {ls ds ms : List Int} {a b c : Int} (hR : oR ls ds ms = true) (hn : ls.length ≤ 98303) (hc : chkL true [a, b, c] = 0) : schk (oQs ls ds ms (a, b, c) ls.length) = 0 := by
  refine schk_ok (by rw [oQs_len]; omega) ?_
  rw [List.all_eq_true]
  intro q hq
  unfold oQs at hq
  rw [List.mem_map] at hq
  obtain ⟨i, hi, rfl⟩ := hq
  rw [List.mem_range] at hi
  obtain ⟨q1, q2, q3, q4, q5, q6⟩ := (oR_get hR).2.2 i hi
  obtain ⟨g1, g2, _, _⟩ := oV_ok hR hc i hi
  unfold sok oQ
  simp only [Bool.and_eq_true, decide_eq_true_eq]
  omega
theorem oQs_eS {ls ds ms : List Int} {r : Int × Int × Int} (li th : Int) : ∀ i, i ≤ ls.length → (eS (oQs ls ds ms r ls.length) li th r i).2.2 = oH ls ds r i := by
  intro i
  induction i with
  | zero => intro _; rfl
  | succ i ih =>
    intro hi
    simp only [eS, ih (by omega), oQs_get ls ds ms r (by omega : i < ls.length), oH, oQ, oV]
theorem oQs_eK {ls ds ms : List Int} {r : Int × Int × Int} (li th : Int) (i : Nat) (hi : i < ls.length) : eK (oQs ls ds ms r ls.length) li th r i = Rask (oH ls ds r i).1 (oH ls ds r i).2.1 (oH ls ds r i).2.2 (oV ls ds r i) (ls.getD i 0) := by
  unfold eK
  rw [oQs_eS li th i (by omega), oQs_get ls ds ms r hi]
  rfl
theorem oAt_lm {ls ds ms : List Int} {r : Int × Int × Int} (hR : oR ls ds ms = true) (n0 : Nat) : ∀ i, i ≤ ls.length → (oAt n0 ls ms i : Int) = n0 + lS (oQs ls ds ms r ls.length) i + mS (oQs ls ds ms r ls.length) i := by
  intro i
  induction i with
  | zero => intro _; simp [oAt, lS, mS]
  | succ i ih =>
    intro hi
    have := ih (by omega)
    obtain ⟨q1, q2, q3, q4, q5, q6⟩ := (oR_get hR).2.2 i (by omega)
    simp only [oAt, lS, mS, oQs_get ls ds ms r (by omega : i < ls.length), oQ]
    omega
theorem oL_size {all : ByteArray} {n0 : Nat} {ls ds ms : List Int} {r : Int × Int × Int} (hR : oR ls ds ms = true) (ha : oAt n0 ls ms ls.length ≤ all.size) : ∀ i, i ≤ ls.length → (((oL all n0 ls ms i).size : Nat) : Int) = lS (oQs ls ds ms r ls.length) i := by
  intro i
  induction i with
  | zero => intro _; rfl
  | succ i ih =>
    intro hi
    have h1 := ih (by omega)
    obtain ⟨q1, q2, q3, q4, q5, q6⟩ := (oR_get hR).2.2 i (by omega)
    have hm := oAt_mono n0 ls ms (i + 1) (ls.length - (i + 1))
    rw [show i + 1 + (ls.length - (i + 1)) = ls.length by omega, oAt] at hm
    simp only [oL, lS, ByteArray.size_append, ByteArray.size_extract, oQs_get ls ds ms r (by omega : i < ls.length), oQ]
    omega
theorem oL_app (all : ByteArray) (n0 : Nat) (ls ms : List Int) (i : Nat) : ∀ j, ∃ Y, bI (oL all n0 ls ms (i + j)) = bI (oL all n0 ls ms i) ++ Y := by
  intro j
  induction j with
  | zero => exact ⟨[], by simp⟩
  | succ j ih =>
    obtain ⟨Y, hY⟩ := ih
    rw [show i + (j + 1) = (i + j) + 1 from rfl, oL, bI_append, hY]
    exact ⟨_, List.append_assoc _ _ _⟩
theorem take_snoc (l : List Int) (n : Nat) (h : n < l.length) : l.take (n + 1) = l.take n ++ [l.getD n 0] := by
  rw [List.take_add_one, List.getD_eq_getElem?_getD, List.getElem?_eq_getElem h]
  rfl
theorem repL_fit {all : ByteArray} {p d m : Nat} (hd : 1 ≤ d) (hd2 : d ≤ p) (hm : p + m ≤ all.size) (hf : ∀ k, k < m → byt all (p + k) = byt all (p + k - d)) : ∀ k, k ≤ m → repL ((bI all).take p) d k = (bI all).take (p + k) := by
  intro k
  induction k with
  | zero => intro _; rfl
  | succ k ih =>
    intro hk
    have h1 := ih (by omega)
    rw [repL, h1, List.length_take, bI_len, Nat.min_eq_left (by omega), show p + (k + 1) = p + k + 1 from rfl, take_snoc _ _ (by rw [bI_len]; omega)]
    congr 2
    have e : ((bI all).take (p + k)).getD (p + k - d) 0 = (bI all).getD (p + k - d) 0 := by
      rw [List.getD_eq_getElem?_getD, List.getD_eq_getElem?_getD, List.getElem?_take, if_pos (by omega)]
    rw [e, bI_get, bI_get, hf k (by omega)]
theorem oFit_get {all : ByteArray} {n0 : Nat} {ls ds ms : List Int} {i : Nat} (h : oFit all n0 ls ds ms i = true) : (ds.getD i 0).toNat ≤ oAt n0 ls ms i + (ls.getD i 0).toNat ∧ ∀ k, k < (ms.getD i 0).toNat → byt all (oAt n0 ls ms i + (ls.getD i 0).toNat + k) = byt all (oAt n0 ls ms i + (ls.getD i 0).toNat + k - (ds.getD i 0).toNat) := by
  unfold oFit at h
  simp only [Bool.and_eq_true, decide_eq_true_eq, List.all_eq_true, List.mem_range, beq_iff_eq] at h
  exact h
theorem oFit_mk {all : ByteArray} {n0 : Nat} {ls ds ms : List Int} {i : Nat} (h1 : (ds.getD i 0).toNat ≤ oAt n0 ls ms i + (ls.getD i 0).toNat) (h2 : ∀ k, k < (ms.getD i 0).toNat → byt all (oAt n0 ls ms i + (ls.getD i 0).toNat + k) = byt all (oAt n0 ls ms i + (ls.getD i 0).toNat + k - (ds.getD i 0).toNat)) : oFit all n0 ls ds ms i = true := by
  unfold oFit
  simp only [Bool.and_eq_true, decide_eq_true_eq, List.all_eq_true, List.mem_range, beq_iff_eq]
  exact ⟨h1, h2⟩
theorem eErr_mk {win : Int} {qs : List (Int × Int × Int)} {li th : Int} {r : Int × Int × Int} {i : Nat} (h1 : (qs.getD i (0, 0, 0)).1 ≤ (eS qs li th r i).1) (h2 : (eK qs li th r i).2.2 = 0) (h3 : (eK qs li th r i).1 ≤ win) (h4 : (eK qs li th r i).1 ≤ (eS qs li th r i).2.1 + (qs.getD i (0, 0, 0)).1) : eErr win qs li th r i = 0 := by
  unfold eErr
  rw [if_neg (by omega), if_neg (by omega)]
/-- All that is known when sequences are made. -/
theorem rof_inv {before out : ByteArray} {ls ds ms : List Int} {a b c : Int} (h : (Rof before out ls ds ms a b c).2.2.2 = 0) :
    oR ls ds ms = true ∧ ls.length ≤ 98303 ∧ chkL true [a, b, c] = 0 ∧ before.size ≤ 1048576 ∧ out.size ≤ 131072 ∧ oAt before.size ls ms ls.length ≤ before.size + out.size ∧ (∀ i, i < ls.length → oFit (before ++ out) before.size ls ds ms i = true) ∧
      Rof before out ls ds ms a b c = (oQs ls ds ms (a, b, c) ls.length, oL (before ++ out) before.size ls ms ls.length ++ (before ++ out).extract (oAt before.size ls ms ls.length) (before ++ out).size, oH ls ds (a, b, c) ls.length, 0) := by
  unfold Rof at h ⊢
  by_cases h1 : oR ls ds ms = false
  · rw [if_pos h1] at h; simp at h
  · rw [if_neg h1] at h ⊢
    by_cases h2 : 98303 < ls.length
    · rw [if_pos h2] at h; simp at h
    · rw [if_neg h2] at h ⊢
      by_cases h3 : chkL true [a, b, c] ≠ 0
      · rw [if_pos h3] at h; simp at h
      · rw [if_neg h3] at h ⊢
        by_cases h4 : 1048576 < before.size ∨ 131072 < out.size
        · rw [if_pos h4] at h; simp at h
        · rw [if_neg h4] at h ⊢
          by_cases h5 : before.size + out.size < oAt before.size ls ms ls.length
          · rw [if_pos h5] at h; simp at h
          · rw [if_neg h5] at h ⊢
            by_cases h6 : (List.range ls.length).all (oFit (before ++ out) before.size ls ds ms) = false
            · rw [if_pos h6] at h; simp at h
            · rw [if_neg h6]
              have h6' : (List.range ls.length).all (oFit (before ++ out) before.size ls ds ms) = true := by simpa using h6
              rw [List.all_eq_true] at h6'
              exact ⟨by simpa using h1, by omega, Classical.byContradiction h3, by omega, by omega, by omega, fun i hi => h6' i (List.mem_range.2 hi), rfl⟩
/-- What is made for bytes gives these bytes. -/
theorem rof_back {before out : ByteArray} {ls ds ms : List Int} {a b c win : Int} (h : (Rof before out ls ds ms a b c).2.2.2 = 0) (hw : (before.size : Int) + out.size ≤ win) :
    Rexec (Rof before out ls ds ms a b c).1 (Rof before out ls ds ms a b c).2.1 before a b c win = (out, (Rof before out ls ds ms a b c).2.2.1, 0) := by
  obtain ⟨hR, hn, hc, hb, ho, hat, hfit, hE⟩ := rof_inv h
  rw [hE]
  dsimp only
  obtain ⟨all, hal⟩ : ∃ x, before ++ out = x := ⟨_, rfl⟩
  have hsz : all.size = before.size + out.size := by rw [← hal, ByteArray.size_append]
  have hbI : bI all = bI before ++ bI out := by rw [← hal, bI_append]
  rw [hal] at hfit ⊢
  have hget := (oR_get hR).2.2
  have hQl := oQs_len ls ds ms (a, b, c) ls.length
  have hch := oQs_chk hR hn hc
  have hlm := fun i hi => oAt_lm (r := (a, b, c)) hR before.size i hi
  have hLs := fun i hi => oL_size (all := all) (n0 := before.size) (r := (a, b, c)) hR (by omega) i hi
  have hat2 := fun i (hi : i ≤ ls.length) => (show oAt before.size ls ms i ≤ oAt before.size ls ms ls.length by have := oAt_mono before.size ls ms i (ls.length - i); rwa [show i + (ls.length - i) = ls.length by omega] at this)
  obtain ⟨S, hS⟩ : ∃ S, oL all before.size ls ms ls.length ++ all.extract (oAt before.size ls ms ls.length) all.size = S := ⟨_, rfl⟩
  have hSs : S.size = (oL all before.size ls ms ls.length).size + (all.size - oAt before.size ls ms ls.length) := by rw [← hS, ByteArray.size_append, ByteArray.size_extract]; omega
  rw [hS]
  have hSb : bI S = bI (oL all before.size ls ms ls.length) ++ (bI all).drop (oAt before.size ls ms ls.length) := by rw [← hS, bI_append, bI_extract, List.take_of_length_le (by rw [List.length_drop, bI_len]; omega)]
  have hmon := fun i (hi : i ≤ ls.length) => (show lS (oQs ls ds ms (a, b, c) ls.length) i ≤ lS (oQs ls ds ms (a, b, c) ls.length) ls.length by have := (lS_mono hch i (ls.length - i) (by rw [hQl]; omega)).1; rwa [show i + (ls.length - i) = ls.length by omega] at this)
  have hlen := hlm ls.length (Nat.le_refl _)
  have hLn := hLs ls.length (Nat.le_refl _)
  have hbd := (lmS_bd hch ls.length (by rw [hQl]; exact Nat.le_refl _))
  have hAll : eAll win (oQs ls ds ms (a, b, c) ls.length) S.size before.size (a, b, c) = 0 := by
    refine eAll_mk (fun i hi => ?_) ?_
    · rw [hQl] at hi
      obtain ⟨q1, q2, q3, q4, q5, q6⟩ := hget i hi
      obtain ⟨v1, v2, v3, v4⟩ := oV_ok hR hc i hi
      obtain ⟨f1, f2⟩ := oFit_get (hfit i hi)
      obtain ⟨s1, s2⟩ := eS_lm (oQs ls ds ms (a, b, c) ls.length) S.size before.size (a, b, c) i
      have m1 := hmon (i + 1) hi
      have m2 := hlm i (by omega)
      have m3 := hat2 (i + 1) hi
      simp only [oAt] at m3
      simp only [lS, oQs_get ls ds ms (a, b, c) hi, oQ] at m1
      have e1 : ((oQs ls ds ms (a, b, c) ls.length).getD i (0, 0, 0)).1 = ls.getD i 0 := by rw [oQs_get ls ds ms (a, b, c) hi]; rfl
      have e2 := oQs_eK (ds := ds) (ms := ms) (r := (a, b, c)) (S.size : Int) (before.size : Int) i hi
      refine eErr_mk ?_ ?_ ?_ ?_
      · rw [e1]; omega
      · rw [e2, v4]
      · rw [e2, v3]; omega
      · rw [e2, v3, e1]; omega
    · rw [hQl]
      obtain ⟨s1, s2⟩ := eS_lm (oQs ls ds ms (a, b, c) ls.length) S.size before.size (a, b, c) ls.length
      omega
  have hD : ∀ i, i < ls.length → (eDs (oQs ls ds ms (a, b, c) ls.length) S.size before.size (a, b, c) ls.length).getD i 0 = ds.getD i 0 := by
    intro i hi
    rw [eDs_get _ _ _ _ _ _ hi, oQs_eK _ _ i hi]
    exact (oV_ok hR hc i hi).2.2.1
  have hO : ∀ i, i ≤ ls.length → eOut (bI S) (oQs ls ds ms (a, b, c) ls.length) (eDs (oQs ls ds ms (a, b, c) ls.length) S.size before.size (a, b, c) ls.length) (bI before) i = ((bI all).take (oAt before.size ls ms i), (oL all before.size ls ms i).size) := by
    intro i
    induction i with
    | zero =>
      intro _
      simp only [eOut, oAt, oL]
      rw [hbI, ← bI_len, List.take_left]
      rfl
    | succ i ih =>
      intro hi
      obtain ⟨q1, q2, q3, q4, q5, q6⟩ := hget i (by omega)
      obtain ⟨f1, f2⟩ := oFit_get (hfit i (by omega))
      have m3 := hat2 (i + 1) hi
      simp only [oAt] at m3
      simp only [eOut, ih (by omega), oQs_get ls ds ms (a, b, c) (by omega : i < ls.length), oQ, hD i (by omega)]
      obtain ⟨Y, hY⟩ := oL_app all before.size ls ms (i + 1) (ls.length - (i + 1))
      rw [show i + 1 + (ls.length - (i + 1)) = ls.length by omega] at hY
      have hx : ((bI S).drop (oL all before.size ls ms i).size).take (ls.getD i 0).toNat = ((bI all).drop (oAt before.size ls ms i)).take (ls.getD i 0).toNat := by
        have e1 : (bI all).drop (oAt before.size ls ms i) = (bI all).drop (oAt before.size ls ms i) := rfl
        rw [hSb, hY, oL, bI_append, bI_extract, Nat.add_sub_cancel_left, ← bI_len, List.append_assoc, List.append_assoc, List.drop_left, List.take_append_of_le_length (by rw [List.length_take, List.length_drop, bI_len]; omega), List.take_take, Nat.min_self]
      rw [hx, ← List.take_add, repL_fit (all := all) (p := oAt before.size ls ms i + (ls.getD i 0).toNat) (m := (ms.getD i 0).toNat) (by omega) f1 (by omega) f2 _ (Nat.le_refl _)]
      simp only [oAt, oL, ByteArray.size_append, ByteArray.size_extract]
      congr 1
      omega
  rw [rexec_ok hch hc (by omega) (by omega) hb hAll, hQl, hO _ (Nat.le_refl _), oQs_eS _ _ _ (Nat.le_refl _)]
  dsimp only
  rw [hSb, ← bI_len (oL all before.size ls ms ls.length), List.drop_left, List.take_append_drop, hbI, ← bI_len before, List.drop_left, bI_str]
end Go.Proofs.YtmblpmaelglnpaaDoor
