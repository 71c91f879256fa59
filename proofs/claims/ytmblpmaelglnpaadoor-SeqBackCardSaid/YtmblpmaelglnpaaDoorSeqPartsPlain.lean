/-
  A list of sequences in two parts gives the same bytes; how many bytes come. No program in sight.
-/
import Derived.Test.YtmblpmaelglnpaaDoorRows
import Derived.Test.YtmblpmaelglnpaaDoorSeqPlain2
import Derived.Test.YtmblpmaelglnpaaDoorSeqSums
import Derived.Test.YtmblpmaelglnpaaDoorSeqMorePlain
import Derived.Test.YtmblpmaelglnpaaDoorGBase
namespace Go.Proofs.YtmblpmaelglnpaaDoor
open Go.RowKit
set_option linter.unusedSimpArgs false
set_option linter.unusedVariables false

theorem getD_takeQ {α : Type} (l : List α) (d : α) {k i : Nat} (h : i < k) : (l.take k).getD i d = l.getD i d := by
  rw [List.getD_eq_getElem?_getD, List.getD_eq_getElem?_getD, List.getElem?_take, if_pos h]
theorem getD_dropQ {α : Type} (l : List α) (d : α) (k i : Nat) : (l.drop k).getD i d = l.getD (k + i) d := by
  rw [List.getD_eq_getElem?_getD, List.getD_eq_getElem?_getD, List.getElem?_drop]
theorem schk_take {qs : List (Int × Int × Int)} (h : schk qs = 0) (k : Nat) : schk (qs.take k) = 0 := by
  unfold schk at h ⊢
  by_cases h1 : 98303 < qs.length
  · rw [if_pos h1] at h; simp at h
  · rw [if_neg h1] at h
    by_cases h2 : qs.all sok = true
    · rw [if_neg (by rw [List.length_take]; omega), if_pos]
      rw [List.all_eq_true] at h2 ⊢
      exact fun x hx => h2 x (List.mem_of_mem_take hx)
    · rw [if_neg h2] at h; simp at h
theorem schk_drop {qs : List (Int × Int × Int)} (h : schk qs = 0) (k : Nat) : schk (qs.drop k) = 0 := by
  unfold schk at h ⊢
  by_cases h1 : 98303 < qs.length
  · rw [if_pos h1] at h; simp at h
  · rw [if_neg h1] at h
    by_cases h2 : qs.all sok = true
    · rw [if_neg (by rw [List.length_drop]; omega), if_pos]
      rw [List.all_eq_true] at h2 ⊢
      exact fun x hx => h2 x (List.mem_of_mem_drop hx)
    · rw [if_neg h2] at h; simp at h
section
variable (qs : List (Int × Int × Int)) (li li' th : Int) (r : Int × Int × Int) (k : Nat)
theorem eS_take : ∀ i, i ≤ k → eS (qs.take k) li' th r i = ((eS qs li th r i).1 + (li' - li), (eS qs li th r i).2) := by
  intro i
  induction i with
  | zero => intro _; simp only [eS]; congr 1; omega
  | succ i ih =>
    intro hi
    simp only [eS, ih (by omega), getD_takeQ qs _ (by omega : i < k)]
    congr 1
    omega
theorem eS_drop : ∀ i, eS (qs.drop k) (eS qs li th r k).1 (eS qs li th r k).2.1 (eS qs li th r k).2.2 i = eS qs li th r (k + i) := by
  intro i
  induction i with
  | zero => rfl
  | succ i ih =>
    rw [show k + (i + 1) = (k + i) + 1 from rfl]
    simp only [eS, ih, getD_dropQ]
theorem eK_take (i : Nat) (h : i < k) : eK (qs.take k) li' th r i = eK qs li th r i := by
  unfold eK
  rw [eS_take qs li li' th r k i (by omega), getD_takeQ qs _ h]
theorem eK_drop (i : Nat) : eK (qs.drop k) (eS qs li th r k).1 (eS qs li th r k).2.1 (eS qs li th r k).2.2 i = eK qs li th r (k + i) := by
  unfold eK
  rw [eS_drop, getD_dropQ]
theorem eErr_drop (win : Int) (i : Nat) : eErr win (qs.drop k) (eS qs li th r k).1 (eS qs li th r k).2.1 (eS qs li th r k).2.2 i = eErr win qs li th r (k + i) := by
  unfold eErr
  rw [eS_drop, eK_drop, getD_dropQ]
theorem eS_lm : ∀ i, (eS qs li th r i).1 = li - lS qs i ∧ (eS qs li th r i).2.1 = th + lS qs i + mS qs i := by
  intro i
  induction i with
  | zero => simp only [eS, lS, mS]; omega
  | succ i ih =>
    simp only [eS, lS, mS]
    omega
theorem lS_take : ∀ i, i ≤ k → lS (qs.take k) i = lS qs i := by
  intro i
  induction i with
  | zero => intro _; rfl
  | succ i ih => intro h; simp only [lS, ih (by omega), getD_takeQ qs _ (by omega : i < k)]
end
theorem lS_mono {qs : List (Int × Int × Int)} (hs : schk qs = 0) (i : Nat) : ∀ j, i + j ≤ qs.length → lS qs i ≤ lS qs (i + j) ∧ mS qs i ≤ mS qs (i + j) := by
  intro j
  induction j with
  | zero => intro _; exact ⟨Int.le_refl _, Int.le_refl _⟩
  | succ j ih =>
    intro h
    have := ih (by omega)
    obtain ⟨q1, q2, q3, q4, q5, q6⟩ := (schk_get hs).2 (i + j) (by omega) (qs.getD (i + j) (0, 0, 0)).1 (qs.getD (i + j) (0, 0, 0)).2.1 (qs.getD (i + j) (0, 0, 0)).2.2 rfl
    rw [show i + (j + 1) = (i + j) + 1 from rfl]
    simp only [lS, mS]
    omega
theorem eErr_take {win : Int} {qs : List (Int × Int × Int)} (hs : schk qs = 0) {li th : Int} {r : Int × Int × Int} {k i : Nat} (hi : i < k) (hk : k ≤ qs.length) (h : eErr win qs li th r i = 0) : eErr win (qs.take k) (lS qs k) th r i = 0 := by
  obtain ⟨g1, g2, g3, g4⟩ := eErr_zero h
  have h1 := (lS_mono hs (i + 1) (k - (i + 1)) (by omega)).1
  rw [show i + 1 + (k - (i + 1)) = k by omega] at h1
  simp only [lS] at h1
  obtain ⟨h2, h3⟩ := eS_lm qs li th r i
  unfold eErr
  rw [eK_take qs li (lS qs k) th r k i hi, eS_take qs li (lS qs k) th r k i (by omega), getD_takeQ qs _ hi]
  dsimp only
  rw [if_neg (by omega), if_neg]
  rintro (h | h | h)
  · exact h g2
  · omega
  · omega
theorem eAll_inv {win : Int} {qs : List (Int × Int × Int)} {li th : Int} {r : Int × Int × Int} (h : eAll win qs li th r = 0) :
    (∀ i, i < qs.length → eErr win qs li th r i = 0) ∧ (eS qs li th r qs.length).2.1 + (eS qs li th r qs.length).1 - th ≤ 131072 := by
  have hb0 : eBad win qs li th r qs.length = 0 := by
    unfold eAll at h
    by_cases h1 : eBad win qs li th r qs.length = 0
    · exact h1
    · rw [if_pos h1] at h; exact absurd h h1
  refine ⟨eBad_all hb0, ?_⟩
  unfold eAll at h
  rw [if_neg (by simpa using hb0)] at h
  split at h
  · omega
  · omega
theorem eAll_mk {win : Int} {qs : List (Int × Int × Int)} {li th : Int} {r : Int × Int × Int} (h : ∀ i, i < qs.length → eErr win qs li th r i = 0) (h2 : (eS qs li th r qs.length).2.1 + (eS qs li th r qs.length).1 - th ≤ 131072) : eAll win qs li th r = 0 := by
  have hb1 : eBad win qs li th r qs.length = 0 := eBad_zero h
  unfold eAll
  rw [if_neg (by simpa using hb1), if_neg (by omega)]
theorem repL_app (A : List Int) (d : Nat) : ∀ k, ∃ Y, repL A d k = A ++ Y := by
  intro k
  induction k with
  | zero => exact ⟨[], by simp [repL]⟩
  | succ k ih =>
    obtain ⟨Y, hY⟩ := ih
    exact ⟨Y ++ [(repL A d k).getD ((repL A d k).length - d) 0], by rw [repL, ← List.append_assoc, ← hY]⟩
section
variable (lits : List Int) (qs : List (Int × Int × Int)) (ds before : List Int)
theorem eOut_app (i : Nat) : ∀ j, (∃ Y, (eOut lits qs ds before (i + j)).1 = (eOut lits qs ds before i).1 ++ Y) ∧ (eOut lits qs ds before i).2 ≤ (eOut lits qs ds before (i + j)).2 := by
  intro j
  induction j with
  | zero => exact ⟨⟨[], by simp⟩, Nat.le_refl _⟩
  | succ j ih =>
    obtain ⟨⟨Y, hY⟩, hle⟩ := ih
    rw [show i + (j + 1) = (i + j) + 1 from rfl]
    simp only [eOut]
    obtain ⟨Z, hZ⟩ := repL_app ((eOut lits qs ds before (i + j)).1 ++ ((lits.drop (eOut lits qs ds before (i + j)).2).take (qs.getD (i + j) (0, 0, 0)).1.toNat)) (ds.getD (i + j) 0).toNat (qs.getD (i + j) (0, 0, 0)).2.1.toNat
    refine ⟨⟨Y ++ ((lits.drop (eOut lits qs ds before (i + j)).2).take (qs.getD (i + j) (0, 0, 0)).1.toNat) ++ Z, ?_⟩, by omega⟩
    rw [hZ, hY]
    simp only [List.append_assoc]
theorem take_part (l : List Int) (H p x : Nat) (h : p + x ≤ H) : ((l.take H).drop p).take x = (l.drop p).take x := by
  rw [List.drop_take, List.take_take, Nat.min_eq_left (by omega)]
theorem eOut_take (k : Nat) (ds1 : List Int) (hd : ∀ i, i < k → ds1.getD i 0 = ds.getD i 0) : ∀ i, i ≤ k → eOut (lits.take (eOut lits qs ds before k).2) (qs.take k) ds1 before i = eOut lits qs ds before i := by
  intro i
  induction i with
  | zero => intro _; rfl
  | succ i ih =>
    intro hi
    have h1 := (eOut_app lits qs ds before (i + 1) (k - (i + 1))).2
    rw [show i + 1 + (k - (i + 1)) = k by omega] at h1
    generalize (eOut lits qs ds before k).2 = H at h1 ih ⊢
    simp only [eOut] at h1
    simp only [eOut, ih (by omega), getD_takeQ qs _ (by omega : i < k), hd i (by omega)]
    rw [take_part _ _ _ _ h1]
theorem eOut_drop (k : Nat) (ds2 : List Int) (hd : ∀ i, k + i < qs.length → ds2.getD i 0 = ds.getD (k + i) 0) : ∀ i, k + i ≤ qs.length → eOut (lits.drop (eOut lits qs ds before k).2) (qs.drop k) ds2 (eOut lits qs ds before k).1 i = ((eOut lits qs ds before (k + i)).1, (eOut lits qs ds before (k + i)).2 - (eOut lits qs ds before k).2) := by
  intro i
  induction i with
  | zero => intro _; simp [eOut]
  | succ i ih =>
    intro hi
    have h1 := (eOut_app lits qs ds before k i).2
    rw [show k + (i + 1) = (k + i) + 1 from rfl]
    simp only [eOut, ih (by omega), getD_dropQ, hd i (by omega)]
    rw [List.drop_drop, show (eOut lits qs ds before k).2 + ((eOut lits qs ds before (k + i)).2 - (eOut lits qs ds before k).2) = (eOut lits qs ds before (k + i)).2 by omega]
    congr 1
    omega
theorem repL_rng (A : List Int) (d : Nat) (h : ∀ x ∈ A, 0 ≤ x ∧ x ≤ 255) : ∀ k, ∀ x ∈ repL A d k, 0 ≤ x ∧ x ≤ 255 := by
  intro k
  induction k with
  | zero => exact h
  | succ k ih =>
    intro x hx
    simp only [repL, List.mem_append, List.mem_singleton] at hx
    rcases hx with hx | hx
    · exact ih x hx
    · rw [List.getD_eq_getElem?_getD] at hx
      by_cases hl : (repL A d k).length - d < (repL A d k).length
      · rw [List.getElem?_eq_getElem hl, Option.getD_some] at hx
        rw [hx]
        exact ih _ (List.getElem_mem hl)
      · rw [List.getElem?_eq_none (by omega), Option.getD_none] at hx
        omega
theorem eOut_rng (h1 : ∀ x ∈ lits, 0 ≤ x ∧ x ≤ 255) (h2 : ∀ x ∈ before, 0 ≤ x ∧ x ≤ 255) : ∀ i, ∀ x ∈ (eOut lits qs ds before i).1, 0 ≤ x ∧ x ≤ 255 := by
  intro i
  induction i with
  | zero => exact h2
  | succ i ih =>
    simp only [eOut]
    refine repL_rng _ _ (fun x hx => ?_) _
    rw [List.mem_append] at hx
    rcases hx with hx | hx
    · exact ih x hx
    · exact h1 x (List.mem_of_mem_drop (List.mem_of_mem_take hx))
end
theorem strSz0 (xs : List Int) : (strOfNums xs).size = xs.length := by
  simp [strOfNums, ByteArray.size]
theorem bI_strOf (xs : List Int) (h : ∀ x ∈ xs, 0 ≤ x ∧ x ≤ 255) : bI (strOfNums xs) = xs := by
  unfold bI
  rw [strOfNums_data]
  simp only [List.map_map]
  conv => rhs; rw [← List.map_id xs]
  apply List.map_congr_left
  intro x hx
  have := h x hx
  simp only [Function.comp_apply, id]
  rw [UInt8.toNat_ofNat']
  omega
theorem strOf_app (xs ys : List Int) : strOfNums (xs ++ ys) = strOfNums xs ++ strOfNums ys := by
  apply ByteArray.ext
  apply Array.toList_inj.1
  rw [ByteArray.data_append, Array.toList_append, strOfNums_data, strOfNums_data, strOfNums_data, List.map_append]
/-- What comes has as many bytes as the sequences say, and the literals left. -/
theorem rexec_size {qs : List (Int × Int × Int)} {lits before : ByteArray} {a b c win : Int} (h : (Rexec qs lits before a b c win).2.2 = 0) :
    schk qs = 0 ∧ ((Rexec qs lits before a b c win).1.size : Int) = lS qs qs.length + mS qs qs.length + lits.size - lS qs qs.length := by
  obtain ⟨h1, h2, h3, h4, h5, h6⟩ := rexec_inv h
  refine ⟨h1, ?_⟩
  obtain ⟨hE, _⟩ := eAll_inv h6
  obtain ⟨hO, _⟩ := eOut_all lits before h1 h6
  obtain ⟨o1, o2, o3⟩ := hO qs.length (Nat.le_refl _)
  obtain ⟨t1, t2, t3, t4⟩ := eOut_st (ls := bI lits) (li := lits.size) (th := before.size) (r := (a, b, c)) (eDs qs lits.size before.size (a, b, c) qs.length) (bI before) h1 hE (bI_len before) qs.length (Nat.le_refl _)
  have t5 := t4 (bI_len lits)
  obtain ⟨s1, s2⟩ := eS_lm qs lits.size before.size (a, b, c) qs.length
  rw [rexec_ok h1 h2 h3 h4 h5 h6]
  dsimp only
  rw [strSz0, List.length_drop, List.length_append, List.length_drop, bI_len]
  generalize eOut (bI lits) qs (eDs qs lits.size before.size (a, b, c) qs.length) (bI before) qs.length = O at *
  omega
theorem rexec_err {qs : List (Int × Int × Int)} {lits before : ByteArray} {a b c win : Int} (h : (Rexec qs lits before a b c win).2.2 ≠ 0) : (Rexec qs lits before a b c win).1 = ⟨#[]⟩ := by
  unfold Rexec at h ⊢
  split
  · rfl
  · split
    · rfl
    · split
      · rfl
      · split
        · rfl
        · split
          · rfl
          · rename_i h1 h2 h3 h4 h5
            rw [if_neg h1, if_neg h2, if_neg h3, if_neg h4, if_neg h5] at h
            exact absurd rfl h
/-- A list in two parts. -/
theorem rexec_parts {qs : List (Int × Int × Int)} {lits before : ByteArray} {a b c win : Int} (h : (Rexec qs lits before a b c win).2.2 = 0) (hbf : before.size + 131072 ≤ 1048576) (k : Nat) (hk : k ≤ qs.length) :
    ∃ (H : Nat) (A B : ByteArray) (x y z : Int), lS qs k = (H : Int) ∧ H ≤ lits.size ∧ Rlits (qs.take k) = ((H : Int), 0) ∧ Rexec (qs.take k) (lits.extract 0 H) before a b c win = (A, (x, y, z), 0) ∧
      Rexec (qs.drop k) (lits.extract H lits.size) (before ++ A) x y z win = (B, (Rexec qs lits before a b c win).2.1, 0) ∧ A ++ B = (Rexec qs lits before a b c win).1 ∧ A.size ≤ 131072 := by
  obtain ⟨h1, h2, h3, h4, h5, h6⟩ := rexec_inv h
  obtain ⟨hE, hT⟩ := eAll_inv h6
  obtain ⟨hO, _⟩ := eOut_all lits before h1 h6
  rw [rexec_ok h1 h2 h3 h4 h5 h6]
  dsimp only
  have hst := eOut_st (ls := bI lits) (li := lits.size) (th := before.size) (r := (a, b, c)) (eDs qs lits.size before.size (a, b, c) qs.length) (bI before) h1 hE (bI_len before)
  obtain ⟨DS, hDS⟩ : ∃ D, eDs qs lits.size before.size (a, b, c) qs.length = D := ⟨_, rfl⟩
  have hDg : ∀ i, i < qs.length → DS.getD i 0 = (eK qs lits.size before.size (a, b, c) i).1 := fun i hi => by rw [← hDS]; exact eDs_get _ _ _ _ _ _ hi
  rw [hDS] at hst hO ⊢
  clear hDS
  obtain ⟨t1, t2, t3, t4⟩ := hst k hk
  have t5 := t4 (bI_len lits)
  obtain ⟨n1, n2, n3, n4⟩ := hst qs.length (Nat.le_refl _)
  have n5 := n4 (bI_len lits)
  obtain ⟨s1, s2⟩ := eS_lm qs lits.size before.size (a, b, c) k
  obtain ⟨s3, s4⟩ := eS_lm qs lits.size before.size (a, b, c) qs.length
  have hm := lS_mono h1 k (qs.length - k) (by omega)
  rw [show k + (qs.length - k) = qs.length by omega] at hm
  obtain ⟨o1, o2, o3⟩ := hO k hk
  have hH : lS qs k = (((eOut (bI lits) qs DS (bI before) k).2 : Nat) : Int) := by omega
  have hrg := eOut_rng (bI lits) qs DS (bI before) (bI_rng lits) (bI_rng before) k
  obtain ⟨Y0, hY0⟩ := (eOut_app (bI lits) qs DS (bI before) 0 k).1
  rw [Nat.zero_add] at hY0
  have hY0' : (eOut (bI lits) qs DS (bI before) k).1 = bI before ++ Y0 := hY0
  obtain ⟨Y1, hY1⟩ := (eOut_app (bI lits) qs DS (bI before) k (qs.length - k)).1
  rw [show k + (qs.length - k) = qs.length by omega] at hY1
  have hmo := (eOut_app (bI lits) qs DS (bI before) k (qs.length - k)).2
  rw [show k + (qs.length - k) = qs.length by omega] at hmo
  have hY0r : ∀ x ∈ Y0, 0 ≤ x ∧ x ≤ 255 := fun x hx => hrg x (by rw [hY0']; exact List.mem_append_right _ hx)
  have hAb : bI (before ++ strOfNums Y0) = (eOut (bI lits) qs DS (bI before) k).1 := by rw [bI_append, bI_strOf Y0 hY0r, hY0']
  have hAl : before.size + Y0.length = (eOut (bI lits) qs DS (bI before) k).1.length := by rw [hY0', List.length_append, bI_len]
  obtain ⟨H, hHd⟩ : ∃ H, (eOut (bI lits) qs DS (bI before) k).2 = H := ⟨_, rfl⟩
  -- the two parts are right
  have hT1 : (qs.take k).length = k := by rw [List.length_take]; omega
  have hT2 : (qs.drop k).length = qs.length - k := List.length_drop
  have e1 : eAll win (qs.take k) (H : Int) before.size (a, b, c) = 0 := by
    refine eAll_mk (fun i hi => ?_) ?_
    · rw [hT1] at hi
      rw [← hHd, ← hH]
      exact eErr_take h1 hi hk (hE i (by omega))
    · rw [hT1, eS_take qs lits.size (H : Int) before.size (a, b, c) k k (Nat.le_refl _)]
      dsimp only
      rw [hHd] at hH
      omega
  have sH : (lits.extract 0 H).size = H := by rw [ByteArray.size_extract]; omega
  have sL : (lits.extract H lits.size).size = lits.size - H := by rw [ByteArray.size_extract]; omega
  have eH : bI (lits.extract 0 H) = (bI lits).take H := by rw [bI_extract, List.drop_zero, Nat.sub_zero]
  have eL : bI (lits.extract H lits.size) = (bI lits).drop H := by rw [bI_extract, List.take_of_length_le (by rw [List.length_drop, bI_len]; omega)]
  have r1 := rexec_ok (a := a) (b := b) (c := c) (win := win) (lits := lits.extract 0 H) (before := before) (schk_take h1 k) h2 h3 (by rw [sH]; omega) h5 (by rw [sH]; exact e1)
  have d1 : ∀ i, i < k → (eDs (qs.take k) ((lits.extract 0 H).size : Nat) before.size (a, b, c) (qs.take k).length).getD i 0 = DS.getD i 0 := by
    intro i hi
    rw [eDs_get _ _ _ _ _ _ (by omega), hDg i (by omega), eK_take qs lits.size _ before.size (a, b, c) k i hi]
  have p1 : eOut ((bI lits).take H) (qs.take k) (eDs (qs.take k) ((lits.extract 0 H).size : Nat) before.size (a, b, c) (qs.take k).length) (bI before) k = eOut (bI lits) qs DS (bI before) k := by
    have := eOut_take (bI lits) qs DS (bI before) k _ d1 k (Nat.le_refl _)
    rw [hHd] at this
    exact this
  rw [eH, hT1] at r1
  rw [hT1] at p1
  rw [p1, hHd, (List.drop_of_length_le (by rw [List.length_take]; omega) : ((bI lits).take H).drop H = []), List.append_nil, hY0', ← bI_len, List.drop_left, sH, eS_take qs lits.size (H : Int) _ (a, b, c) k k (Nat.le_refl _)] at r1
  dsimp only at r1
  rw [bI_len] at r1
  obtain ⟨⟨x, y, z⟩, hX⟩ : ∃ X, (eS qs lits.size before.size (a, b, c) k).2.2 = X := ⟨_, rfl⟩
  rw [hX] at r1
  have hXc : chkL true [x, y, z] = 0 := by
    cases k with
    | zero =>
      have : (a, b, c) = (x, y, z) := hX
      cases this
      exact h2
    | succ k =>
      obtain ⟨_, g2, _, _⟩ := eErr_zero (hE k (by omega))
      have := (rask_pos g2).2.2
      have e : (eS qs lits.size before.size (a, b, c) (k + 1)).2.2 = (eK qs lits.size before.size (a, b, c) k).2.1 := rfl
      unfold eK at e
      rw [← e, hX] at this
      exact this
  have sA : (before ++ strOfNums Y0).size = (eOut (bI lits) qs DS (bI before) k).1.length := by rw [ByteArray.size_append, strSz0, hAl]
  have c1 : (((lits.extract H lits.size).size : Nat) : Int) = (eS qs lits.size before.size (a, b, c) k).1 := by rw [sL]; omega
  have c2 : (((before ++ strOfNums Y0).size : Nat) : Int) = (eS qs lits.size before.size (a, b, c) k).2.1 := by rw [sA]; exact t5
  have e2 : eAll win (qs.drop k) ((lits.extract H lits.size).size : Nat) ((before ++ strOfNums Y0).size : Nat) (x, y, z) = 0 := by
    rw [c1, c2, ← hX]
    refine eAll_mk (fun i hi => ?_) ?_
    · rw [eErr_drop]
      exact hE _ (by omega)
    · rw [hT2, eS_drop, show k + (qs.length - k) = qs.length by omega]
      omega
  have r2 := rexec_ok (a := x) (b := y) (c := z) (win := win) (lits := lits.extract H lits.size) (before := before ++ strOfNums Y0) (schk_drop h1 k) hXc h3 (by rw [sL]; omega) (by rw [sA]; omega) e2
  have d2 : ∀ i, k + i < qs.length → (eDs (qs.drop k) (eS qs lits.size before.size (a, b, c) k).1 (eS qs lits.size before.size (a, b, c) k).2.1 (eS qs lits.size before.size (a, b, c) k).2.2 (qs.drop k).length).getD i 0 = DS.getD (k + i) 0 := by
    intro i hi
    rw [eDs_get _ _ _ _ _ _ (by omega), hDg _ hi, eK_drop]
  have p2 := eOut_drop (bI lits) qs DS (bI before) k _ d2 (qs.length - k) (by omega)
  rw [hHd, show k + (qs.length - k) = qs.length by omega] at p2
  rw [c1, c2, ← hX, eL, hAb, hT2, eS_drop, show k + (qs.length - k) = qs.length by omega] at r2
  rw [hT2] at p2
  rw [p2] at r2
  dsimp only at r2
  rw [List.drop_drop, show H + ((eOut (bI lits) qs DS (bI before) qs.length).2 - H) = (eOut (bI lits) qs DS (bI before) qs.length).2 by omega] at r2
  refine ⟨H, strOfNums Y0, _, x, y, z, by rw [hH, hHd], by omega, ?_, r1, r2, ?_, ?_⟩
  · unfold Rlits
    rw [if_neg (by simpa using schk_take h1 k), hT1, lS_take qs k k (Nat.le_refl _), hH, hHd]
  · rw [← strOf_app, sA, hY1, List.append_assoc, List.drop_left, hY0', List.append_assoc, ← bI_len, List.drop_left]
  · rw [strSz0]; omega
end Go.Proofs.YtmblpmaelglnpaaDoor
