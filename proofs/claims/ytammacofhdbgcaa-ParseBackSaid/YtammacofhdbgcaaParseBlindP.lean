/-
  Plain facts: bytes behind the end of a block do not matter for its sequences. No program in sight.
-/
import Derived.Test.YtammacofhdbgcaaRows
import Derived.Test.YtammacofhdbgcaaParsePlain2
import Derived.Test.YtammacofhdbgcaaMatchBlindP
import Derived.Test.YtammacofhdbgcaaGBase
import Derived.Deep.Light
import Derived.Shelf.Abstract
import Derived.Shelf.RegionOpen
import Derived.OwnWalkIn
import Derived.TacticsInMore
import Derived.LoopNIn
import Derived.LoopIn
namespace Go.Proofs.Ytammacofhdbgcaa
open Go.RowKit
set_option linter.unusedSimpArgs false
set_option linter.unusedVariables false

theorem wchk_blind (s t : ByteArray) (e : Nat) (hs : e ≤ s.size) (ht : e ≤ t.size) (hs1 : s.size ≤ 1048576) (ht1 : t.size ≤ 1048576) (hb : ∀ i, i < e → byt t i = byt s i) (p l : Int) : wchk t.size p (e : Int) l = wchk s.size p (e : Int) l := by
  unfold wchk wOk
  rw [if_neg (by omega), if_neg (by omega)]
  by_cases h : 0 ≤ p ∧ p ≤ (e : Int)
  · congr 1
    simp only [eq_iff_iff]
    constructor <;> intro h <;> (try simp only [] at *) <;> omega
  · congr 1
    simp only [eq_iff_iff]
    constructor <;> intro h <;> (try simp only [] at *) <;> omega
theorem rall_blind (s t : ByteArray) (e : Nat) (hs : e ≤ s.size) (ht : e ≤ t.size) (hs1 : s.size ≤ 1048576) (ht1 : t.size ≤ 1048576) (hb : ∀ i, i < e → byt t i = byt s i) (p : Nat) (l dp a b c li : Int) : Rall t p e l dp a b c li = Rall s p e l dp a b c li := by
  unfold Rall
  rw [wchk_blind s t e hs ht hs1 ht1 hb]
  by_cases h : wchk s.size p e l = 0
  · obtain ⟨w1, w2, w3, w4, w5, w6⟩ := wchk_ok h
    have := (mofs_tail s t 0 p e a b c li l.toNat dp.toNat (by omega) (by omega) (fun i _ hi => hb i hi)).2
    simp only [Int.toNat_natCast]
    rw [this]
  · rw [if_pos h, if_pos h]
theorem pat_blind (s t : ByteArray) (e : Nat) (hs : e ≤ s.size) (ht : e ≤ t.size) (hs1 : s.size ≤ 1048576) (ht1 : t.size ≤ 1048576) (hb : ∀ i, i < e → byt t i = byt s i) (l dp a b c : Int) : pat t e l dp a b c = pat s e l dp a b c := by
  funext p li
  unfold pat Rat
  rw [rall_blind s t e hs ht hs1 ht1 hb]
theorem pstep_blind (s t : ByteArray) (e : Nat) (hs : e ≤ s.size) (ht : e ≤ t.size) (hs1 : s.size ≤ 1048576) (ht1 : t.size ≤ 1048576) (hb : ∀ i, i < e → byt t i = byt s i) (l dp a b c : Int) (lz : Nat) : pstep t e l dp a b c lz = pstep s e l dp a b c lz := by
  have hp := pat_blind s t e hs ht hs1 ht1 hb l dp a b c
  have hpb : pbet t e l dp a b c = pbet s e l dp a b c := by
    funext p li g d
    unfold pbet
    rw [hp]
  have hpl : plater t e l dp a b c lz = plater s e l dp a b c lz := by
    funext p li g
    unfold plater
    rw [hpb]
  funext f
  induction f with
  | zero => rfl
  | succ f ih =>
    funext p li
    unfold pstep
    rw [ih, hp, hpl]
theorem pnx_blind (s t : ByteArray) (e : Nat) (hs : e ≤ s.size) (ht : e ≤ t.size) (hs1 : s.size ≤ 1048576) (ht1 : t.size ≤ 1048576) (hb : ∀ i, i < e → byt t i = byt s i) (l dp : Int) (lz : Nat) : pnx t e l dp lz = pnx s e l dp lz := by
  funext st
  have hn : ∀ a b c, pnext t e l dp a b c lz = pnext s e l dp a b c lz := fun a b c => by
    funext p li
    unfold pnext
    rw [pstep_blind s t e hs ht hs1 ht1 hb]
  unfold pnx
  rw [hn]
theorem psts_blind (s t : ByteArray) (e : Nat) (hs : e ≤ s.size) (ht : e ≤ t.size) (hs1 : s.size ≤ 1048576) (ht1 : t.size ≤ 1048576) (hb : ∀ i, i < e → byt t i = byt s i) (l dp : Int) (lz : Nat) (st : Nat × Int × Int × Int) : ∀ i, psts t e l dp lz st i = psts s e l dp lz st i := by
  intro i
  induction i with
  | zero => rfl
  | succ i ih => rw [psts, psts, ih, pnx_blind s t e hs ht hs1 ht1 hb]
theorem pnum_blind (s t : ByteArray) (e : Nat) (hs : e ≤ s.size) (ht : e ≤ t.size) (hs1 : s.size ≤ 1048576) (ht1 : t.size ≤ 1048576) (hb : ∀ i, i < e → byt t i = byt s i) (l dp : Int) (lz : Nat) : ∀ f st, pnum t e l dp lz f st = pnum s e l dp lz f st := by
  intro f
  induction f with
  | zero => intro st; rfl
  | succ f ih => intro st; rw [pnum, pnum, pnx_blind s t e hs ht hs1 ht1 hb, ih]
theorem byt_extract (s : ByteArray) (i j k : Nat) (h : i + k < j) : byt (s.extract i j) k = byt s (i + k) := by
  rw [byt_eq, byt_eq]
  simp only [ByteArray.data_extract, Array.toList_extract]
  simp only [List.getD_eq_getElem?_getD]
  congr 1
  simp [List.getElem?_drop, List.getElem?_take]
  rw [if_pos (by omega)]
theorem bytes_eq (a b : ByteArray) (h : a.size = b.size) (hb : ∀ i, i < a.size → byt a i = byt b i) : a = b := by
  apply ByteArray.ext
  apply Array.ext
  · exact h
  · intro i h1 h2
    have h3 := hb i h1
    unfold byt at h3
    rw [dif_pos (show i < a.size from h1), dif_pos (show i < b.size from h2)] at h3
    exact UInt8.toNat_inj.1 h3
theorem extract_blind (s t : ByteArray) (e : Nat) (hs : e ≤ s.size) (ht : e ≤ t.size) (hs1 : s.size ≤ 1048576) (ht1 : t.size ≤ 1048576) (hb : ∀ i, i < e → byt t i = byt s i) (i j : Nat) (hj : j ≤ e) : t.extract i j = s.extract i j := by
  apply bytes_eq
  · rw [ByteArray.size_extract, ByteArray.size_extract]; omega
  · intro k hk
    rw [ByteArray.size_extract] at hk
    rw [byt_extract _ _ _ _ (by omega), byt_extract _ _ _ _ (by omega)]
    exact hb _ (by omega)
theorem pblock_blind (s t : ByteArray) (e : Nat) (hs : e ≤ s.size) (ht : e ≤ t.size) (hs1 : s.size ≤ 1048576) (ht1 : t.size ≤ 1048576) (hb : ∀ i, i < e → byt t i = byt s i) (p : Nat) (hp : p ≤ e) (l dp : Int) (lz : Nat) (a b c : Int) (hc : chkL true [a, b, c] = 0) : pblock t p e l dp lz a b c = pblock s p e l dp lz a b c := by
  have h1 : pN t p e l dp lz a b c = pN s p e l dp lz a b c := by unfold pN; rw [pnum_blind s t e hs ht hs1 ht1 hb]
  have h2 : pS t p e l dp lz a b c = pS s p e l dp lz a b c := by funext i; unfold pS; rw [psts_blind s t e hs ht hs1 ht1 hb]
  have h3 : pQ t p e l dp lz a b c = pQ s p e l dp lz a b c := by funext i; unfold pQ; rw [h2, pnx_blind s t e hs ht hs1 ht1 hb]
  obtain ⟨g1, g2, g3⟩ := pS_ok s p e l dp lz a b c hp hs hs1 hc
  have h4 : ∀ i, i ≤ pN s p e l dp lz a b c → pLits t p e l dp lz a b c i = pLits s p e l dp lz a b c i := by
    intro i
    induction i with
    | zero => intro _; rfl
    | succ i ih =>
      intro hi
      obtain ⟨o1, _⟩ := g2 i (by omega)
      obtain ⟨x, d, n, v, y, z, k1, k2, k3, k4, k5, k6, k7, k8⟩ := pnx_ok s e l dp lz _ o1 (g1 i (by omega))
      have hq : pQ s p e l dp lz a b c i = ((x : Int), (n : Int), v) := k1
      rw [pLits, pLits, ih (by omega), h2, h3, hq]
      dsimp only
      rw [Int.toNat_natCast, extract_blind s t e hs ht hs1 ht1 hb _ _ (by omega)]
  unfold pblock
  rw [h1, h2, h3, h4 _ (Nat.le_refl _), extract_blind s t e hs ht hs1 ht1 hb _ _ (Nat.le_refl _)]
end Go.Proofs.Ytammacofhdbgcaa
