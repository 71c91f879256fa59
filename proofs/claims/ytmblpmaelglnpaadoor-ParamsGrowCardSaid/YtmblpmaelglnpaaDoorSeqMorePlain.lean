/-
  More bytes before those that are used change nothing. No program in sight.
-/
import Derived.Test.YtmblpmaelglnpaaDoorRows
import Derived.Test.YtmblpmaelglnpaaDoorSeqPlain2
import Derived.Test.YtmblpmaelglnpaaDoorGBase
namespace Go.Proofs.YtmblpmaelglnpaaDoor
open Go.RowKit
set_option linter.unusedSimpArgs false
set_option linter.unusedVariables false

theorem eS_more (qs : List (Int × Int × Int)) (li th m : Int) (r : Int × Int × Int) : ∀ i, eS qs li (th + m) r i = ((eS qs li th r i).1, (eS qs li th r i).2.1 + m, (eS qs li th r i).2.2) := by
  intro i
  induction i with
  | zero => rfl
  | succ i ih =>
    simp only [eS, ih]
    congr 2
    omega
theorem eK_more (qs : List (Int × Int × Int)) (li th m : Int) (r : Int × Int × Int) (i : Nat) : eK qs li (th + m) r i = eK qs li th r i := by
  unfold eK
  rw [eS_more]
theorem eErr_more {win : Int} {qs : List (Int × Int × Int)} {li th m : Int} {r : Int × Int × Int} {i : Nat} (hm : 0 ≤ m) (h : eErr win qs li th r i = 0) : eErr win qs li (th + m) r i = 0 := by
  obtain ⟨g1, g2, g3, g4⟩ := eErr_zero h
  unfold eErr
  rw [eK_more, eS_more]
  dsimp only
  rw [if_neg (by omega), if_neg]
  rintro (h1 | h1 | h1)
  · exact h1 g2
  · omega
  · omega
theorem eAll_more {win : Int} {qs : List (Int × Int × Int)} {li th m : Int} {r : Int × Int × Int} (hm : 0 ≤ m) (h : eAll win qs li th r = 0) : eAll win qs li (th + m) r = 0 := by
  have hb0 : eBad win qs li th r qs.length = 0 := by
    unfold eAll at h
    by_cases h1 : eBad win qs li th r qs.length = 0
    · exact h1
    · rw [if_pos h1] at h; exact absurd h h1
  have hE := eBad_all hb0
  have hb1 : eBad win qs li (th + m) r qs.length = 0 := eBad_zero fun k hk => eErr_more hm (hE k hk)
  unfold eAll at h ⊢
  rw [if_neg (by simpa using hb0)] at h
  rw [if_neg (by simpa using hb1), eS_more]
  dsimp only
  split at h
  · omega
  · rw [if_neg (by omega)]
theorem eDs_more (qs : List (Int × Int × Int)) (li th m : Int) (r : Int × Int × Int) (n : Nat) : eDs qs li (th + m) r n = eDs qs li th r n := by
  unfold eDs
  simp only [eK_more]
theorem repL_more (M A : List Int) (d : Nat) (h1 : 1 ≤ d) (h2 : d ≤ A.length) : ∀ k, repL (M ++ A) d k = M ++ repL A d k := by
  intro k
  induction k with
  | zero => rfl
  | succ k ih =>
    have h3 := repL_len A d k
    simp only [repL, ih]
    rw [← List.append_assoc]
    congr 2
    rw [List.getD_eq_getElem?_getD, List.getD_eq_getElem?_getD, List.getElem?_append_right (by rw [List.length_append]; omega), List.length_append]
    congr 2
    omega
theorem eOut_more {win : Int} {qs : List (Int × Int × Int)} (lits before : ByteArray) (M : List Int) {a b c : Int} (hs : schk qs = 0) (hw : eAll win qs lits.size before.size (a, b, c) = 0) :
    ∀ i, i ≤ qs.length → eOut (bI lits) qs (eDs qs lits.size before.size (a, b, c) qs.length) (M ++ bI before) i = (M ++ (eOut (bI lits) qs (eDs qs lits.size before.size (a, b, c) qs.length) (bI before) i).1, (eOut (bI lits) qs (eDs qs lits.size before.size (a, b, c) qs.length) (bI before) i).2) := by
  obtain ⟨hA, hB⟩ := eOut_all lits before hs hw
  intro i
  induction i with
  | zero => intro _; rfl
  | succ i ih =>
    intro hi
    have e := ih (by omega)
    obtain ⟨x, m, d, v, q1, q2, q3, q4, q5, q6, q7, q8⟩ := hB i (by omega)
    simp only [eOut, e, q1, q2, Int.toNat_natCast]
    rw [List.append_assoc, repL_more _ _ _ q3]
    rw [List.length_append, List.length_take, List.length_drop, bI_len]
    generalize eOut (bI lits) qs (eDs qs lits.size before.size (a, b, c) qs.length) (bI before) i = O at *
    omega
theorem rexec_inv {qs : List (Int × Int × Int)} {lits before : ByteArray} {a b c win : Int} (h : (Rexec qs lits before a b c win).2.2 = 0) :
    schk qs = 0 ∧ chkL true [a, b, c] = 0 ∧ 0 ≤ win ∧ lits.size ≤ 131072 ∧ before.size ≤ 1048576 ∧ eAll win qs lits.size before.size (a, b, c) = 0 := by
  unfold Rexec at h
  split at h
  · rename_i h1; exact absurd h h1
  · rename_i h1
    split at h
    · rename_i h2; exact absurd h h2
    · rename_i h2
      split at h
      · simp at h
      · split at h
        · simp at h
        · rename_i h4
          split at h
          · rename_i h5; exact absurd h h5
          · rename_i h5
            exact ⟨Classical.byContradiction h1, Classical.byContradiction h2, by omega, by omega, by omega, Classical.byContradiction h5⟩
theorem rexec_more {qs : List (Int × Int × Int)} {lits before more : ByteArray} {a b c win : Int} (h : (Rexec qs lits before a b c win).2.2 = 0) (hm : before.size + more.size ≤ 1048576) :
    Rexec qs lits (more ++ before) a b c win = Rexec qs lits before a b c win := by
  obtain ⟨h1, h2, h3, h4, h5, h6⟩ := rexec_inv h
  have hz : (more ++ before).size = before.size + more.size := by rw [ByteArray.size_append]; omega
  have hc : (((more ++ before).size : Nat) : Int) = (before.size : Int) + (more.size : Int) := by omega
  have h7 : eAll win qs lits.size ((more ++ before).size : Nat) (a, b, c) = 0 := by rw [hc]; exact eAll_more (by omega) h6
  rw [rexec_ok h1 h2 h3 h4 (by omega) h7, rexec_ok h1 h2 h3 h4 h5 h6, hc, eDs_more, eS_more, bI_append, eOut_more lits before (bI more) h1 h6 _ (Nat.le_refl _)]
  dsimp only
  congr 2
  rw [List.append_assoc, hz, Nat.add_comm, ← List.drop_drop, List.drop_append_of_le_length (by rw [bI_len]; omega), (List.drop_of_length_le (by rw [bI_len]; omega) : (bI more).drop more.size = []), List.nil_append]
theorem repL_one (A : List Int) (b : Int) : ∀ k, repL (A ++ [b]) 1 k = A ++ List.replicate (k + 1) b := by
  intro k
  induction k with
  | zero => rfl
  | succ k ih =>
    rw [repL, ih, List.append_assoc, List.getD_eq_getElem?_getD, List.getElem?_append_right (by simp)]
    rw [List.getElem?_replicate, if_pos (by simp), Option.getD_some, List.replicate_succ' (n := k + 1)]
theorem chk_148 : chkL true [1, 4, 8] = 0 := by decide +kernel
theorem rask_148 : Rask 1 4 8 4 1 = (1, (1, 1, 4), 0) := by decide +kernel
theorem strOfNums_reps (k : Nat) (b : UInt8) : (strOfNums (List.replicate k (b.toNat : Int))) = ⟨Array.replicate k b⟩ := by
  apply ByteArray.ext
  apply Array.toList_inj.1
  rw [strOfNums_data]
  simp
theorem rexec_run (before : ByteArray) (b : UInt8) (n : Nat) (hn : 3 ≤ n) (hn2 : n ≤ 131071) (hb : before.size ≤ 1048576) :
    Rexec [(1, (n : Int), 4)] ⟨#[b]⟩ before 1 4 8 1 = (⟨Array.replicate (n + 1) b⟩, (1, 1, 4), 0) := by
  have hl : ((⟨#[b]⟩ : ByteArray).size) = 1 := rfl
  have hs : schk [(1, (n : Int), 4)] = 0 := by
    unfold schk sok
    simp
    omega
  have hE : eErr 1 [(1, (n : Int), 4)] ((1 : Nat) : Int) before.size (1, 4, 8) 0 = 0 := by
    unfold eErr eK
    simp only [eS, List.getD_cons_zero]
    rw [show ((1 : Nat) : Int) = 1 from rfl, rask_148]
    simp
    omega
  have hA : eAll 1 [(1, (n : Int), 4)] ((1 : Nat) : Int) before.size (1, 4, 8) = 0 := by
    unfold eAll
    have hB : eBad 1 [(1, (n : Int), 4)] ((1 : Nat) : Int) before.size (1, 4, 8) ([(1, (n : Int), 4)] : List (Int × Int × Int)).length = 0 := by
      simp only [List.length_singleton, eBad, hE]
      rfl
    rw [if_neg (by simpa using hB)]
    simp only [List.length_singleton, eS, List.getD_cons_zero]
    rw [if_neg (by omega)]
  rw [rexec_ok hs chk_148 (by decide) (by rw [hl]; decide) hb hA]
  have hD : eDs [(1, (n : Int), 4)] ((1 : Nat) : Int) before.size (1, 4, 8) 1 = [1] := by
    rw [eDs_succ]
    unfold eK
    simp only [eS, List.getD_cons_zero]
    rw [show ((1 : Nat) : Int) = 1 from rfl, rask_148]
    rfl
  have hT : (eS [(1, (n : Int), 4)] ((1 : Nat) : Int) before.size (1, 4, 8) 1).2.2 = (1, 1, 4) := by
    simp only [eS, List.getD_cons_zero]
    rw [rask_148]
  rw [hl]
  simp only [List.length_singleton]
  rw [hD, hT]
  have h1 : (bI ⟨#[b]⟩) = [(b.toNat : Int)] := rfl
  simp only [eOut, List.getD_cons_zero, h1, List.drop_zero]
  rw [show ([(b.toNat : Int)].take (1 : Int).toNat) = [(b.toNat : Int)] from rfl, show (1 : Int).toNat = 1 from rfl, Int.toNat_natCast, repL_one]
  simp only [Nat.zero_add, List.drop_succ_cons, List.drop_nil, List.append_nil, List.drop_zero]
  rw [← bI_len, List.drop_left, strOfNums_reps]
end Go.Proofs.YtmblpmaelglnpaaDoor
