/-
  The sequences of a block, as plain functions. No program in sight.
-/
import Derived.Test.YtammacofhdbgcaaRows
import Derived.Test.YtammacofhdbgcaaParsePlain
import Derived.Test.YtammacofhdbgcaaGBase
import Derived.Deep.Light
import Derived.Shelf.Abstract
import Derived.Shelf.RegionOpen
import Derived.OwnWalkIn
import Derived.TacticsInMore
import Derived.LoopNIn
import Derived.LoopIn
namespace Go.Proofs.Ytammacofhdbgcaa
open Go.RowKit
set_option linter.unusedSimpArgs false
set_option linter.unusedVariables false

theorem mbZ_zero (ms : List (Int × Int × Int × Int)) : mbZ ms 0 = (0, 0, 0, 0) := by unfold mbZ; rw [if_pos rfl]
/-- What a match at a place is. -/
theorem pat_ok (s : ByteArray) (e : Nat) (l dp a b c : Int) (p : Nat) (li : Int) (h : (pat s e l dp a b c p li).2 = true) :
    ∃ q v y z, q < p ∧ p - q ≤ 2 ^ l.toNat ∧ chkL true [a, b, c] = 0 ∧ 0 ≤ li ∧ 4 ≤ cmn s (e - p) q p ∧ cmn s (e - p) q p ≤ e - p ∧ s.size ≤ 1048576 ∧ e ≤ s.size ∧ p ≤ e ∧
      Rval a b c ((p : Int) - (q : Int)) li = (v, 0) ∧ Rask a b c v li = ((p : Int) - (q : Int), ((p : Int) - (q : Int), y, z), 0) ∧ chkL true [(p : Int) - (q : Int), y, z] = 0 ∧ 1 ≤ v ∧ v ≤ 2147483651 ∧
      (pat s e l dp a b c p li).1 = ((p : Int) - (q : Int), ((cmn s (e - p) q p : Nat) : Int), v, mgain (cmn s (e - p) q p : Nat) v) := by
  unfold pat at h ⊢
  dsimp only at h ⊢
  simp only [Bool.and_eq_true, beq_iff_eq] at h
  obtain ⟨h1, h2⟩ := h
  unfold Rat at h1 h2 ⊢
  by_cases hR : (Rall s p e l dp a b c li).2 = 0
  · rw [if_pos hR] at h1 h2 ⊢
    dsimp only at h1 ⊢
    have hR2 := hR
    unfold Rall at h1 hR ⊢
    by_cases g1 : wchk s.size p e l = 0
    · rw [if_neg (by simpa using g1)] at h1 hR ⊢
      by_cases g2 : chkL true [a, b, c] = 0
      · rw [if_neg (by simpa using g2)] at h1 hR ⊢
        by_cases g3 : dp < 1 ∨ 64 < dp ∨ li < 0
        · rw [if_pos g3] at h1
          simp at h1
        · rw [if_neg g3] at h1 ⊢
          dsimp only at h1 ⊢
          simp only [Int.toNat_natCast] at h1 ⊢
          obtain ⟨w1, w2, w3, w4, w5, w6⟩ := wchk_ok g1
          have hn : 0 < (cands s p e l.toNat dp.toNat).length := by simpa [mofs_len] using h1
          obtain ⟨k, k1, k2, k3⟩ := best_all s p e a b c li l.toNat dp.toNat hn
          rw [k2, mofs_get _ _ _ _ _ _ _ _ _ k1]
          obtain ⟨q1, q2, q3, q4⟩ := cands_mem s p e l.toNat dp.toNat _ (getD_mem _ k 0 k1)
          generalize (cands s p e l.toNat dp.toNat).getD k 0 = q at q1 q2 q3 q4
          obtain ⟨v, y, z, r1, r2, r3, r4, r5, _⟩ := rval_first (a := a) (b := b) (c := c) (d := (p : Int) - (q : Int)) (l := li) g2 (by omega) (by omega) (by omega)
          refine ⟨q, v, y, z, q1, q2, g2, by omega, (cmn_four s (e - p) q p).2 ⟨q4, q3⟩, cmn_le s (e - p) q p, w1, by omega, by omega, r1, r2, r5, r3, by omega, ?_⟩
          unfold mof
          rw [r1]
      · rw [if_pos (by simpa using g2)] at h1
        simp at h1
    · rw [if_pos (by simpa using g1)] at h1
      simp at h1
  · rw [if_neg hR] at h1
    simp at h1
theorem pnext_shp (s : ByteArray) (e : Nat) (l dp a b c : Int) (lz p : Nat) (li : Int) (hp : p ≤ e) : p ≤ (pnext s e l dp a b c lz p li).1 ∧ (pnext s e l dp a b c lz p li).1 ≤ e ∧ ((pnext s e l dp a b c lz p li).2.2 = true → (pnext s e l dp a b c lz p li).1 < e ∧ (pat s e l dp a b c (pnext s e l dp a b c lz p li).1 (li + ((pnext s e l dp a b c lz p li).1 - p : Nat))) = ((pnext s e l dp a b c lz p li).2.1, true)) := pnext_shape s e l dp a b c lz (e - p) p li hp
theorem pnext_none_end (s : ByteArray) (e : Nat) (l dp a b c : Int) (lz : Nat) : ∀ f p li, (pstep s e l dp a b c lz f p li).2.2 = false → pstep s e l dp a b c lz f p li = (e, (0, 0, 0, 0), false) := by
  intro f
  induction f with
  | zero => intro p li _; rfl
  | succ f ih =>
    intro p li
    unfold pstep
    by_cases hpe : p < e
    · rw [if_pos hpe]
      by_cases h1 : (pat s e l dp a b c p li).2 = false
      · rw [if_pos h1]; exact ih _ _
      · rw [if_neg h1]
        by_cases h2 : plater s e l dp a b c lz p li (pat s e l dp a b c p li).1.2.2.2 = 0
        · rw [if_pos h2]; intro h; simp at h
        · rw [if_neg h2]; exact ih _ _
    · rw [if_neg hpe]; intro _; rfl
/-- From where a sequence begins, with the history there: what it is, where the next one begins, and whether there is one. -/
def pnx (s : ByteArray) (e : Nat) (l dp : Int) (lz : Nat) (st : Nat × Int × Int × Int) : (Int × Int × Int) × (Nat × Int × Int × Int) × Bool :=
  let r := pnext s e l dp st.2.1 st.2.2.1 st.2.2.2 lz st.1 0
  let h := (Rask st.2.1 st.2.2.1 st.2.2.2 r.2.1.2.2.1 ((r.1 : Int) - (st.1 : Int))).2.1
  (((r.1 : Int) - (st.1 : Int), r.2.1.2.1, r.2.1.2.2.1), (r.1 + r.2.1.2.1.toNat, h.1, h.2.1, h.2.2), r.2.2)
/-- The same, that many sequences further on. -/
def psts (s : ByteArray) (e : Nat) (l dp : Int) (lz : Nat) (st : Nat × Int × Int × Int) : Nat → Nat × Int × Int × Int
  | 0 => st
  | i + 1 => (pnx s e l dp lz (psts s e l dp lz st i)).2.1
/-- How many sequences there are. -/
def pnum (s : ByteArray) (e : Nat) (l dp : Int) (lz : Nat) : Nat → (Nat × Int × Int × Int) → Nat
  | 0, _ => 0
  | f + 1, st => if (pnx s e l dp lz st).2.2 then pnum s e l dp lz f (pnx s e l dp lz st).2.1 + 1 else 0
theorem psts_shift (s : ByteArray) (e : Nat) (l dp : Int) (lz : Nat) (st : Nat × Int × Int × Int) : ∀ i, psts s e l dp lz st (i + 1) = psts s e l dp lz (pnx s e l dp lz st).2.1 i := by
  intro i
  induction i with
  | zero => rfl
  | succ i ih => rw [psts, ih, psts]
/-- Is this the place of a sequence and its history? -/
def POk (s : ByteArray) (e : Nat) (st : Nat × Int × Int × Int) : Prop := st.1 ≤ e ∧ e ≤ s.size ∧ s.size ≤ 1048576 ∧ chkL true [st.2.1, st.2.2.1, st.2.2.2] = 0
/-- What the next sequence is. -/
theorem pnx_ok (s : ByteArray) (e : Nat) (l dp : Int) (lz : Nat) (st : Nat × Int × Int × Int) (hst : POk s e st) (h : (pnx s e l dp lz st).2.2 = true) :
    ∃ (x d n : Nat) (v y z : Int), (pnx s e l dp lz st).1 = ((x : Int), (n : Int), v) ∧ (pnx s e l dp lz st).2.1 = (st.1 + x + n, (d : Int), y, z) ∧ 1 ≤ d ∧ d ≤ st.1 + x ∧ d ≤ 2 ^ l.toNat ∧ 4 ≤ n ∧ st.1 + x + n ≤ e ∧
      1 ≤ v ∧ v ≤ 2147483651 ∧ Rask st.2.1 st.2.2.1 st.2.2.2 v x = ((d : Int), ((d : Int), y, z), 0) ∧ Rval st.2.1 st.2.2.1 st.2.2.2 d x = (v, 0) ∧ POk s e (pnx s e l dp lz st).2.1 ∧ n = cmn s (e - (st.1 + x)) (st.1 + x - d) (st.1 + x) ∧
      (pnext s e l dp st.2.1 st.2.2.1 st.2.2.2 lz st.1 0).1 = st.1 + x := by
  obtain ⟨p, a, b, c⟩ := st
  obtain ⟨hp, he, hs, hc⟩ := hst
  dsimp only at hp hc ⊢
  have hsh := pnext_shp s e l dp a b c lz p 0 hp
  unfold pnx at h ⊢
  dsimp only at h ⊢
  generalize pnext s e l dp a b c lz p 0 = R at h hsh ⊢
  obtain ⟨q, m, f⟩ := R
  dsimp only at h hsh ⊢
  subst h
  obtain ⟨h1, h2, h3⟩ := hsh
  obtain ⟨h4, h5⟩ := h3 rfl
  obtain ⟨x, rfl⟩ : ∃ x, q = p + x := ⟨q - p, by omega⟩
  rw [show p + x - p = x by omega] at h5
  obtain ⟨q', v, y, z, g1, g2, g3, g4, g5, g6, g7, g8, g9, g10, g11, g12, g13, g14, g15⟩ := pat_ok s e l dp a b c (p + x) (0 + (x : Int)) (by rw [h5])
  rw [h5] at g15
  dsimp only at g15
  subst g15
  obtain ⟨d, hd⟩ : ∃ d, p + x - q' = d := ⟨_, rfl⟩
  have hq : q' = p + x - d := by omega
  subst hq
  obtain ⟨n, hn⟩ : ∃ n, cmn s (e - (p + x)) (p + x - d) (p + x) = n := ⟨_, rfl⟩
  rw [show ((p + x : Nat) : Int) - ((p + x - d : Nat) : Int) = (d : Int) by omega] at *
  rw [show ((p + x : Nat) : Int) - (p : Int) = (x : Int) by omega]
  rw [Int.zero_add] at g10 g11
  rw [hn] at g5 g6 ⊢
  simp only [g11, Int.toNat_natCast]
  exact ⟨x, d, n, v, y, z, rfl, rfl, by omega, by omega, by omega, g5, by omega, g13, g14, g11, g10, ⟨by dsimp only; omega, he, hs, g12⟩, hn.symm, rfl⟩
/-- With fuel enough: where there is one, where there is none. -/
theorem pnum_lt (s : ByteArray) (e : Nat) (l dp : Int) (lz : Nat) : ∀ f st i, i < pnum s e l dp lz f st → (pnx s e l dp lz (psts s e l dp lz st i)).2.2 = true := by
  intro f
  induction f with
  | zero => intro st i h; simp [pnum] at h
  | succ f ih =>
    intro st i h
    unfold pnum at h
    by_cases hx : (pnx s e l dp lz st).2.2 = true
    · rw [if_pos hx] at h
      cases i with
      | zero => exact hx
      | succ i => rw [psts_shift]; exact ih _ _ (by omega)
    · rw [if_neg hx] at h
      omega
theorem pnum_ok (s : ByteArray) (e : Nat) (l dp : Int) (lz : Nat) : ∀ f st, POk s e st → ∀ i, i ≤ pnum s e l dp lz f st → POk s e (psts s e l dp lz st i) ∧ st.1 + 4 * i ≤ (psts s e l dp lz st i).1 := by
  intro f st hst i
  induction i with
  | zero => intro _; exact ⟨hst, by simp [psts]⟩
  | succ i ih =>
    intro h
    obtain ⟨h1, h2⟩ := ih (by omega)
    obtain ⟨x, d, n, v, y, z, g1, g2, g3, g4, g5, g6, g7, g8, g9, g10, g11, g12, g13, g14⟩ := pnx_ok s e l dp lz _ h1 (pnum_lt s e l dp lz f st i (by omega))
    refine ⟨g12, ?_⟩
    rw [psts, g2]
    dsimp only
    omega
theorem pnum_stop (s : ByteArray) (e : Nat) (l dp : Int) (lz : Nat) : ∀ f st, POk s e st → e < st.1 + f → (pnx s e l dp lz (psts s e l dp lz st (pnum s e l dp lz f st))).2.2 = false := by
  intro f
  induction f with
  | zero => intro st hst h; have := hst.1; omega
  | succ f ih =>
    intro st hst h
    unfold pnum
    by_cases hx : (pnx s e l dp lz st).2.2 = true
    · rw [if_pos hx, psts_shift]
      obtain ⟨x, d, n, v, y, z, g1, g2, g3, g4, g5, g6, g7, g8, g9, g10, g11, g12, g13, g14⟩ := pnx_ok s e l dp lz _ hst hx
      exact ih _ g12 (by rw [g2]; dsimp only; omega)
    · rw [if_neg hx, psts]
      simpa using hx
/-- Of a block: its sequences, literals, and the history behind them. -/
def pN (s : ByteArray) (p e : Nat) (l dp : Int) (lz : Nat) (a b c : Int) : Nat := pnum s e l dp lz (e + 1) (p, a, b, c)
def pS (s : ByteArray) (p e : Nat) (l dp : Int) (lz : Nat) (a b c : Int) (i : Nat) : Nat × Int × Int × Int := psts s e l dp lz (p, a, b, c) i
def pQ (s : ByteArray) (p e : Nat) (l dp : Int) (lz : Nat) (a b c : Int) (i : Nat) : Int × Int × Int := (pnx s e l dp lz (pS s p e l dp lz a b c i)).1
def pLits (s : ByteArray) (p e : Nat) (l dp : Int) (lz : Nat) (a b c : Int) : Nat → ByteArray
  | 0 => ⟨#[]⟩
  | i + 1 => pLits s p e l dp lz a b c i ++ s.extract (pS s p e l dp lz a b c i).1 ((pS s p e l dp lz a b c i).1 + (pQ s p e l dp lz a b c i).1.toNat)
def pblock (s : ByteArray) (p e : Nat) (l dp : Int) (lz : Nat) (a b c : Int) : List (Int × Int × Int) × ByteArray × (Int × Int × Int) :=
  ((List.range (pN s p e l dp lz a b c)).map (pQ s p e l dp lz a b c), pLits s p e l dp lz a b c (pN s p e l dp lz a b c) ++ s.extract (pS s p e l dp lz a b c (pN s p e l dp lz a b c)).1 e, (pS s p e l dp lz a b c (pN s p e l dp lz a b c)).2)
theorem pS_ok (s : ByteArray) (p e : Nat) (l dp : Int) (lz : Nat) (a b c : Int) (hp : p ≤ e) (he : e ≤ s.size) (hs : s.size ≤ 1048576) (hc : chkL true [a, b, c] = 0) :
    (∀ i, i < pN s p e l dp lz a b c → (pnx s e l dp lz (pS s p e l dp lz a b c i)).2.2 = true) ∧ (∀ i, i ≤ pN s p e l dp lz a b c → POk s e (pS s p e l dp lz a b c i) ∧ p + 4 * i ≤ (pS s p e l dp lz a b c i).1) ∧
    (pnx s e l dp lz (pS s p e l dp lz a b c (pN s p e l dp lz a b c))).2.2 = false :=
  have hst : POk s e (p, a, b, c) := ⟨hp, he, hs, hc⟩
  ⟨fun i h => pnum_lt s e l dp lz _ _ i h, fun i h => pnum_ok s e l dp lz _ _ hst i h, pnum_stop s e l dp lz _ _ hst (by dsimp only; omega)⟩
theorem pLits_size (s : ByteArray) (p e : Nat) (l dp : Int) (lz : Nat) (a b c : Int) (hp : p ≤ e) (he : e ≤ s.size) (hs : s.size ≤ 1048576) (hc : chkL true [a, b, c] = 0) :
    ∀ i, i ≤ pN s p e l dp lz a b c → p + (pLits s p e l dp lz a b c i).size ≤ (pS s p e l dp lz a b c i).1 := by
  obtain ⟨h1, h2, h3⟩ := pS_ok s p e l dp lz a b c hp he hs hc
  intro i
  induction i with
  | zero => intro _; exact Nat.le_refl _
  | succ i ih =>
    intro hi
    have := ih (by omega)
    obtain ⟨g0, _⟩ := h2 i (by omega)
    obtain ⟨x, d, n, v, y, z, g1, g2, g3, g4, g5, g6, g7, g8, g9, g10, g11, g12, g13, g14⟩ := pnx_ok s e l dp lz _ g0 (h1 i (by omega))
    have e1 : pS s p e l dp lz a b c (i + 1) = (pnx s e l dp lz (pS s p e l dp lz a b c i)).2.1 := rfl
    rw [e1, g2]
    unfold pLits pQ
    rw [g1, ByteArray.size_append, ByteArray.size_extract]
    dsimp only
    simp only [Int.toNat_natCast]
    omega
end Go.Proofs.Ytammacofhdbgcaa
