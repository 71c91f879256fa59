/-
  The pieces of a string between blanks: strings.SplitSeq's iterator, walked.
-/
import Derived.Test.YtmblpmaelglnpaaDoorRows
import Derived.Test.YtmblpmaelglnpaaDoorPrmEnv
import Derived.Test.YtmblpmaelglnpaaDoorRangeO
import Derived.Test.YtmblpmaelglnpaaDoorGBase
import Derived.Deep.Light
import Derived.Shelf.Abstract
import Derived.Shelf.RegionOpen
import Derived.OwnWalkIn
import Derived.TacticsInMore
import Derived.LoopNIn
import Derived.LoopIn
import Derived.Outline
import Derived.IntWalk
import Derived.WalkMore
namespace Go.Proofs.YtmblpmaelglnpaaDoor
open Go.RowKit
set_option linter.unusedSimpArgs false
set_option linter.unusedVariables false
open Go.Shelf
attribute [local go_sem] Oper.semAt_some

theorem spl_none : ∀ (l : List UInt8), Lib.indexByte l 32 = -1 → spl l = [l] := by
  intro l
  induction l with
  | nil => intro _; rfl
  | cons c l ih =>
    intro h
    unfold Lib.indexByte at h
    by_cases hc : c = 32
    · subst hc; simp at h
    · have hc2 : (c == 32) = false := by simpa using hc
      rw [hc2] at h
      simp only [Bool.false_eq_true, if_false] at h
      have hg := Lib.indexByte_ge l 32
      have h2 : Lib.indexByte l 32 = -1 := by
        split at h
        · rename_i h3; simpa using h3
        · omega
      rw [spl, if_neg hc, ih h2]
theorem spl_some : ∀ (l : List UInt8) (m : Nat), Lib.indexByte l 32 = (m : Int) → m < l.length ∧ spl l = l.take m :: spl (l.drop (m + 1)) := by
  intro l
  induction l with
  | nil => intro m h; exfalso; unfold Lib.indexByte at h; omega
  | cons c l ih =>
    intro m h
    unfold Lib.indexByte at h
    by_cases hc : c = 32
    · subst hc
      have hm : m = 0 := by
        have h5 : (0 : Int) = (m : Int) := by simpa using h
        omega
      subst hm
      exact ⟨by simp, by rw [spl, if_pos rfl]; rfl⟩
    · have hc2 : (c == 32) = false := by simpa using hc
      rw [hc2] at h
      simp only [Bool.false_eq_true, if_false] at h
      have hg := Lib.indexByte_ge l 32
      by_cases h3 : (Lib.indexByte l 32 == -1) = true
      · rw [if_pos h3] at h
        omega
      · rw [if_neg h3] at h
        have hm1 : 1 ≤ m := by
          generalize Lib.indexByte l 32 = z at h h3 hg
          have h4 : z ≠ -1 := by simpa using h3
          omega
        obtain ⟨k, rfl⟩ : ∃ k, m = k + 1 := ⟨m - 1, by omega⟩
        obtain ⟨h1, h2⟩ := ih k (by omega)
        refine ⟨by simp; omega, ?_⟩
        rw [spl, if_neg hc, h2]
        rfl
/-- The i-th piece. -/
def pcs (s : ByteArray) (i : Nat) : ByteArray := ⟨((spl s.data.toList).getD i []).toArray⟩
def npc (s : ByteArray) : Nat := (spl s.data.toList).length
theorem spl_len (l : List UInt8) : (spl l).length ≤ l.length + 1 := by
  induction l with
  | nil => simp [spl]
  | cons c l ih =>
    unfold spl
    split
    · simp; omega
    · have := spl_ne l
      split
      · simp
      · rename_i x xs hx; rw [hx] at ih; simp at ih ⊢; omega
theorem bytes_take (r : ByteArray) (m : Nat) : r.extract 0 m = ⟨(r.data.toList.take m).toArray⟩ := by
  apply ByteArray.ext
  rw [ByteArray.data_extract]
  apply Array.ext'
  simp
theorem bytes_drop (r : ByteArray) (m : Nat) : (r.extract m r.size).data.toList = r.data.toList.drop m := by
  rw [ByteArray.data_extract]
  rw [Array.toList_extract, List.extract_eq_take_drop]
  exact List.take_of_length_le (by rw [List.length_drop, Array.length_toList]; exact Nat.le_refl _)
theorem drop_head {l : List (List UInt8)} {k : Nat} {x : List UInt8} {t : List (List UInt8)} (h : l.drop k = x :: t) : k < l.length ∧ l.getD k [] = x ∧ l.drop (k + 1) = t := by
  have hk : k < l.length := by
    rcases Nat.lt_or_ge k l.length with h1 | h1
    · exact h1
    · rw [List.drop_eq_nil_of_le h1] at h; cases h
  rw [List.drop_eq_getElem_cons hk] at h
  injection h with h1 h2
  exact ⟨hk, by rw [List.getD_eq_getElem?_getD, List.getElem?_eq_getElem hk]; exact h1, h2⟩
/-- The boxes of the iterator: the blank, the rest of the string, the number 0. -/
def SBox (w : World) (bA bB bC : Nat) (r : ByteArray) : Prop :=
  w.cell? ⟨bA, 0, none⟩ = some (.string ⟨#[32]⟩) ∧ w.cell? ⟨bB, 0, none⟩ = some (.string r) ∧ w.frozen? ⟨bB, 0, none⟩ = false ∧ w.cell? ⟨bC, 0, none⟩ = some (.int .i64 0)
def strLen : Option Value → Nat
  | some (.string r) => r.size
  | _ => 0
theorem stay_frozen {S : Nat → Prop} {X Y : World} (h : Stay S X Y) {a : Addr} {v : Value} (hs : S a.block) (hc : X.cell? a = some v) : Y.frozen? a = X.frozen? a := h.frozen hs hc
theorem SBox.stay {S : Nat → Prop} {X Y : World} {bA bB bC : Nat} {r : ByteArray} (hb : SBox X bA bB bC r) (h : Stay S X Y) (hA : S bA) (hB : S bB) (hC : S bC) : SBox Y bA bB bC r := by
  obtain ⟨h1, h2, h3, h4⟩ := hb
  exact ⟨h.cell (a := ⟨bA, 0, none⟩) hA h1, h.cell (a := ⟨bB, 0, none⟩) hB h2, (h.frozen (a := ⟨bB, 0, none⟩) hB h2).trans h3, h.cell (a := ⟨bC, 0, none⟩) hC h4⟩
set_option maxRecDepth 100000 in
set_option maxHeartbeats 4000000 in
theorem split_iter (s : ByteArray) (bA bB bC l : Nat) (hs : s.size ≤ 1048576) (J : Nat → World → Prop) (Jx : World → Prop) (W : World) (hAB : bA ≠ bB) (hBC : bC ≠ bB)
    (hst : ∀ i X Y, OldBut (fun k => k = bA ∨ k = bB ∨ k = bC) W.heap.size X Y → J i X → J i Y)
    (hr : ∀ i X, i < npc s → J i X → RoundOk Tryd.prog l #[.string (pcs s i)] X (fun W' => J (i + 1) W' ∧ Stay (fun k => (k = bA ∨ k = bB ∨ k = bC) ∨ W.heap.size ≤ k) X W') (fun W' => Jx W' ∧ Stay (fun k => (k = bA ∨ k = bB ∨ k = bC) ∨ W.heap.size ≤ k) X W')) (h0 : J 0 W) (hb : SBox W bA bB bC s) :
    Calls Tryd.prog 129 #[.func (.yield l) #[] #[], .pointer (some ⟨bA, 0, none⟩), .pointer (some ⟨bB, 0, none⟩), .pointer (some ⟨bC, 0, none⟩)] W fun e W' => (∃ v, e = .returned v) ∧ (J (npc s) W' ∨ Jx W') := by
  refine callsIn_wide (n := 0) |>.1 (callsIn_of_wp Tryd.func129 rfl trivial ?_ rfl)
  simp only [Tryd.ntmps129, List.size_toArray, List.length_cons, List.length_nil, Nat.reduceAdd, Nat.reduceSub, Array.replicate_succ, Array.replicate_zero, List.push_toArray, List.append_toArray, List.nil_append, List.cons_append]
  obtain ⟨g1, g2, g3, g4⟩ := hb
  have HB := Lib.hid (show SBox W bA bB bC s from ⟨g1, g2, g3, g4⟩)
  gi_wp2
  gi_loopw [7] (fun v wr => ∃ (k : Nat) (r : ByteArray), k < npc s ∧ r.size ≤ s.size ∧ Hid ((spl s.data.toList).drop k = spl r.data.toList) ∧ Hid (J k wr) ∧ Hid (SBox wr bA bB bC r)) (fun _ wr => strLen (wr.cell? ⟨bB, 0, none⟩))
  case atStart => exact ⟨0, s, by unfold npc; have := spl_ne s.data.toList; cases hx : spl s.data.toList with | nil => exact absurd hx this | cons a t => simp, Nat.le_refl _, Lib.hid rfl, Lib.hid h0, HB⟩
  case round =>
    obtain ⟨k, r, hk, hrs, HD, HJ, HBR⟩ := hrel
    obtain ⟨g1, g2, g3, g4⟩ := HBR.out
    have qI := fun w => Tryd.strings_Index_one r 32 w
    have hg := Lib.indexByte_ge r.data.toList 32
    have hN1 := spl_none r.data.toList
    have hN2 := spl_some r.data.toList
    generalize Lib.indexByte r.data.toList 32 = ix at qI hg hN1 hN2
    have hrm : r.size ≤ 1048576 := by omega
    by_cases hx : ix = -1
    · have hd := HD.out
      rw [hN1 hx] at hd
      obtain ⟨_, hp, hn⟩ := drop_head hd
      have hpk : pcs s k = r := by
        unfold pcs
        rw [hp]
      have hkn : k + 1 = npc s := by
        have h5 : npc s ≤ k + 1 := by
          unfold npc
          exact List.drop_eq_nil_iff.1 hn
        omega
      subst hx
      obtain ⟨fn, tmps, assign, body, hy, hRo⟩ := hr k wr hk HJ.out
      rw [hpk] at hy
      have HK := Lib.hid hkn
      clear hN1 hN2 hd hp hn hpk hkn hr hg
      gi_wp2
      refine ⟨trivial, rfl, (callsIn_wide.2 (qI _)).mono ?_⟩
      rintro e w1 ⟨rfl, rfl⟩
      gi_wp2
      refine ⟨rfl, hRo.mono ?_⟩
      rintro e W4 (⟨rfl, hJ3, hS3⟩ | ⟨rfl, hJx3, hSx⟩)
      · gi_wp2
        go_end0
        exact ⟨⟨_, rfl⟩, .inl (by rw [← HK.out]; exact hJ3)⟩
      · gi_wp2
        go_end0
        exact ⟨⟨_, rfl⟩, .inr hJx3⟩
    · obtain ⟨m, rfl⟩ : ∃ m : Nat, ix = (m : Int) := ⟨ix.toNat, by omega⟩
      obtain ⟨hml, hm2⟩ := hN2 m rfl
      have hml2 : m < r.size := hml
      have hd := HD.out
      rw [hm2] at hd
      obtain ⟨_, hp, hn⟩ := drop_head hd
      have hpk : pcs s k = r.extract 0 m := by
        unfold pcs
        rw [hp, bytes_take]
      have HN := Lib.hid (show (spl s.data.toList).drop (k + 1) = spl (r.extract (m + 1) r.size).data.toList by rw [hn, bytes_drop])
      have HK : Hid (k + 1 < npc s) := Lib.hid (by
        have h6 := spl_ne (r.data.toList.drop (m + 1))
        rw [← hn] at h6
        rcases Nat.lt_or_ge (k + 1) (npc s) with h7 | h7
        · exact h7
        · exact absurd (List.drop_eq_nil_of_le h7) h6)
      obtain ⟨fn, tmps, assign, body, hy, hRo⟩ := hr k wr hk HJ.out
      rw [hpk] at hy
      have i0 : (0 : Int) ≤ (m : Int) := by omega
      have i1 : (m : Int) ≤ (r.size : Int) := by omega
      have i2 : (m : Int) + 1 ≤ (r.size : Int) := by omega
      have i3 : (0 : Int) ≤ (m : Int) + 1 := by omega
      have i4 : ((m : Int) + 1).toNat = m + 1 := by omega
      have i5 : m ≤ r.size := by omega
      have i6 : m + 1 ≤ r.size := by omega
      have hx2 : ¬ (m : Int) < 0 := by omega
      have HR := Lib.hid hr
      have HST := Lib.hid hst
      clear hN1 hN2 hd hp hn hpk hr hg hx hm2 hml hst
      gi_wp2
      refine ⟨trivial, rfl, (callsIn_wide.2 (qI _)).mono ?_⟩
      rintro e w1 ⟨rfl, rfl⟩
      gi_wp2
      refine ⟨rfl, hRo.mono ?_⟩
      rintro e W4 (⟨rfl, hJ3, hS3⟩ | ⟨rfl, hJx3, hSx⟩)
      · obtain ⟨k1, k2, k3, k4⟩ := HBR.out.stay hS3 (.inl (.inl rfl)) (.inl (.inr (.inl rfl))) (.inl (.inr (.inr rfl)))
        gi_wp2
        go_roundw
        case rel =>
          have n1 : ¬ bB = bA := fun e => hAB e.symm
          have n2 : ¬ bB = bC := fun e => hBC e.symm
          exact ⟨k + 1, r.extract (m + 1) r.size, HK.out, by rw [ByteArray.size_extract]; omega, HN, Lib.hid (HST.out _ _ _ (OldBut.setCell W4 _ (.inr (.inr (.inl rfl)))) hJ3), Lib.hid ⟨by simp [go_sem, n1, k1], by simp [go_sem, k2], by simp [go_sem, k3], by simp [go_sem, n2, k4]⟩⟩
        case measure =>
          have e1 : (W4.setCell ⟨bB, 0, none⟩ (.string (r.extract (m + 1) r.size))).cell? ⟨bB, 0, none⟩ = some (.string (r.extract (m + 1) r.size)) := by simp [go_sem, k2]
          rw [e1, g2]
          show (r.extract (m + 1) r.size).size < r.size
          rw [ByteArray.size_extract]
          omega
      · gi_wp2
        refine bodyPost_ret (results_none rfl _ _ _) rfl ?_
        exact ⟨⟨_, rfl⟩, .inr hJx3⟩
end Go.Proofs.YtmblpmaelglnpaaDoor
