/-
  Sequences of a block, executed again: plain facts. No program in sight.
-/
import Derived.Test.YtammacofhdbgcaaRows
import Derived.Test.YtammacofhdbgcaaSeqPlain
import Derived.Test.YtammacofhdbgcaaParsePlain2
import Derived.Test.YtammacofhdbgcaaParseBlindP
import Derived.Test.YtammacofhdbgcaaGBase
import Derived.Deep.Light
import Derived.Shelf.Abstract
import Derived.Shelf.RegionOpen
import Derived.OwnWalkIn
import Derived.TacticsInMore
import Derived.LoopNIn
import Derived.LoopIn
namespace Go.Proofs.Ytammacofhdbgcaa
open Go.RowKit
set_option linter.unusedSimpArgs false
set_option linter.unusedVariables false

theorem cmn_get (s : ByteArray) : ∀ f q p k, k < cmn s f q p → byt s (q + k) = byt s (p + k) := by
  intro f
  induction f with
  | zero => intro q p k h; simp [cmn] at h
  | succ f ih =>
    intro q p k h
    unfold cmn at h
    by_cases hb : byt s q = byt s p
    · rw [if_pos hb] at h
      cases k with
      | zero => exact hb
      | succ k =>
        have := ih (q + 1) (p + 1) k (by omega)
        rw [show q + (k + 1) = q + 1 + k by omega, show p + (k + 1) = p + 1 + k by omega]
        exact this
    · rw [if_neg hb] at h
      omega
theorem take_getD (S : List Int) (n k : Nat) (h : k < n) : (S.take n).getD k 0 = S.getD k 0 := by
  simp [List.getD_eq_getElem?_getD, List.getElem?_take, h]
theorem take_snoc (S : List Int) (n : Nat) (h : n < S.length) : S.take n ++ [S.getD n 0] = S.take (n + 1) := by
  rw [List.take_add_one, List.getElem?_eq_getElem h]
  simp [List.getD_eq_getElem?_getD, h]
theorem repL_take (S : List Int) (m d n : Nat) (hd : 1 ≤ d) (hm : d ≤ m) (hn : m + n ≤ S.length) (h : ∀ k, k < n → S.getD (m + k - d) 0 = S.getD (m + k) 0) : repL (S.take m) d n = S.take (m + n) := by
  induction n with
  | zero => rfl
  | succ n ih =>
    rw [repL, ih (by omega) (fun k hk => h k (by omega))]
    have hl : (S.take (m + n)).length = m + n := by rw [List.length_take]; omega
    rw [hl, take_getD _ _ _ (by omega), h n (by omega), take_snoc _ _ (by omega)]
    rfl
theorem pQ_get (s : ByteArray) (p e : Nat) (l dp : Int) (lz : Nat) (a b c : Int) (i : Nat) (h : i < pN s p e l dp lz a b c) : ((List.range (pN s p e l dp lz a b c)).map (pQ s p e l dp lz a b c)).getD i (0, 0, 0) = pQ s p e l dp lz a b c i := by
  simp [List.getD_eq_getElem?_getD, h]
theorem pLits_pre (s : ByteArray) (p e : Nat) (l dp : Int) (lz : Nat) (a b c : Int) : ∀ n i, i ≤ n → ∃ T, bI (pLits s p e l dp lz a b c n) = bI (pLits s p e l dp lz a b c i) ++ T := by
  intro n
  induction n with
  | zero => intro i hi; obtain rfl : i = 0 := by omega
            exact ⟨[], by simp⟩
  | succ n ih =>
    intro i hi
    by_cases h : i = n + 1
    · subst h; exact ⟨[], by simp⟩
    · obtain ⟨T, hT⟩ := ih i (by omega)
      rw [pLits, bI_append, hT, List.append_assoc]
      exact ⟨_, rfl⟩
/-- A block executed: the state, the errors and the bytes after some sequences. -/
theorem back_all (s : ByteArray) (p e : Nat) (l dp : Int) (lz : Nat) (a b c : Int) (hp : p ≤ e) (he : e ≤ s.size) (hs : s.size ≤ 1048576) (hc : chkL true [a, b, c] = 0)
    (qs : List (Int × Int × Int)) (t : ByteArray) (r : Int × Int × Int) (hB : pblock s p e l dp lz a b c = (qs, t, r)) (win : Int) (hw : (2 : Int) ^ l.toNat ≤ win) :
    qs.length = pN s p e l dp lz a b c ∧ t.size ≤ e - p ∧ (∀ i, i < qs.length → ∃ (x n : Nat) (v : Int), qs.getD i (0, 0, 0) = ((x : Int), (n : Int), v) ∧ x ≤ e ∧ 4 ≤ n ∧ n ≤ e ∧ 1 ≤ v ∧ v ≤ 2147483651) ∧
    4 * qs.length ≤ e - p ∧
    (∀ i, i < qs.length → eErr win qs t.size p (a, b, c) i = 0) ∧
    (∀ i, i ≤ qs.length → ∃ u : Nat, u ≤ t.size ∧ eS qs t.size p (a, b, c) i = ((t.size : Int) - (u : Int), ((pS s p e l dp lz a b c i).1 : Int), (pS s p e l dp lz a b c i).2) ∧ eOut (bI t) qs (eDs qs t.size p (a, b, c) qs.length) (bI (s.extract 0 p)) i = ((bI s).take (pS s p e l dp lz a b c i).1, u) ∧ u = (pLits s p e l dp lz a b c i).size) := by
  obtain ⟨g1, g2, g3⟩ := pS_ok s p e l dp lz a b c hp he hs hc
  have gl := pLits_size s p e l dp lz a b c hp he hs hc
  unfold pblock at hB
  have hq0 := (Prod.mk.inj hB).1
  have ht0 := (Prod.mk.inj (Prod.mk.inj hB).2).1
  have hqn : qs.length = pN s p e l dp lz a b c := by rw [← hq0]; simp
  obtain ⟨o1, o2⟩ := g2 _ (Nat.le_refl _)
  have o3 := gl _ (Nat.le_refl _)
  obtain ⟨o4, o5, o6, o7⟩ := o1
  have hts : t.size = (pLits s p e l dp lz a b c qs.length).size + (e - (pS s p e l dp lz a b c qs.length).1) := by
    rw [← ht0, ByteArray.size_append, ByteArray.size_extract, hqn]; omega
  have hget : ∀ i, i < qs.length → qs.getD i (0, 0, 0) = pQ s p e l dp lz a b c i := fun i hi => by rw [← hq0]; exact pQ_get s p e l dp lz a b c i (by omega)
  have hpq : ∀ i, i < qs.length → ∃ (x d n : Nat) (v y z : Int), pQ s p e l dp lz a b c i = ((x : Int), (n : Int), v) ∧ pS s p e l dp lz a b c (i + 1) = ((pS s p e l dp lz a b c i).1 + x + n, (d : Int), y, z) ∧ 1 ≤ d ∧ d ≤ (pS s p e l dp lz a b c i).1 + x ∧ d ≤ 2 ^ l.toNat ∧ 4 ≤ n ∧ (pS s p e l dp lz a b c i).1 + x + n ≤ e ∧ 1 ≤ v ∧ v ≤ 2147483651 ∧ Rask (pS s p e l dp lz a b c i).2.1 (pS s p e l dp lz a b c i).2.2.1 (pS s p e l dp lz a b c i).2.2.2 v x = ((d : Int), ((d : Int), y, z), 0) ∧ n = cmn s (e - ((pS s p e l dp lz a b c i).1 + x)) ((pS s p e l dp lz a b c i).1 + x - d) ((pS s p e l dp lz a b c i).1 + x) := by
    intro i hi
    obtain ⟨x, d, n, v, y, z, k1, k2, k3, k4, k5, k6, k7, k8, k9, k10, k11, k12, k13, k14⟩ := pnx_ok s e l dp lz _ (g2 i (by omega)).1 (g1 i (by omega))
    exact ⟨x, d, n, v, y, z, k1, k2, k3, k4, k5, k6, k7, k8, k9, k10, k13⟩
  have hLs : ∀ i, i < qs.length → (pLits s p e l dp lz a b c (i + 1)).size = (pLits s p e l dp lz a b c i).size + (pQ s p e l dp lz a b c i).1.toNat := by
    intro i hi
    obtain ⟨x, d, n, v, y, z, k1, k2, k3, k4, k5, k6, k7, k8, k9, k10, k13⟩ := hpq i hi
    rw [pLits, ByteArray.size_append, ByteArray.size_extract, k1]
    dsimp only
    simp only [Int.toNat_natCast]
    omega
  have hle : ∀ i, i ≤ qs.length → (pLits s p e l dp lz a b c i).size ≤ t.size := by
    intro i hi
    obtain ⟨T, hT⟩ := pLits_pre s p e l dp lz a b c qs.length i hi
    have := congrArg List.length hT
    rw [List.length_append, bI_len, bI_len] at this
    omega
  have hst : ∀ i, i ≤ qs.length → eS qs t.size p (a, b, c) i = ((t.size : Int) - ((pLits s p e l dp lz a b c i).size : Int), ((pS s p e l dp lz a b c i).1 : Int), (pS s p e l dp lz a b c i).2) := by
    intro i
    induction i with
    | zero => intro _; simp only [eS, pLits]; rw [show (⟨#[]⟩ : ByteArray).size = 0 from rfl]; simp [pS, psts]
    | succ i ih =>
      intro hi
      obtain ⟨x, d, n, v, y, z, k1, k2, k3, k4, k5, k6, k7, k8, k9, k10, k13⟩ := hpq i (by omega)
      rw [eS, ih (by omega), hget i (by omega), hLs i (by omega), k1, k2]
      dsimp only
      rw [k10]
      simp only [Int.toNat_natCast]
      rw [Prod.mk.injEq, Prod.mk.injEq]
      exact ⟨by omega, by omega, rfl⟩
  have hK : ∀ i, i < qs.length → ∃ d n x: Nat, ∃ v y z : Int, eK qs t.size p (a, b, c) i = ((d : Int), ((d : Int), y, z), 0) ∧ pQ s p e l dp lz a b c i = ((x : Int), (n : Int), v) ∧ pS s p e l dp lz a b c (i + 1) = ((pS s p e l dp lz a b c i).1 + x + n, (d : Int), y, z) ∧ 1 ≤ d ∧ d ≤ (pS s p e l dp lz a b c i).1 + x ∧ d ≤ 2 ^ l.toNat ∧ (pS s p e l dp lz a b c i).1 + x + n ≤ e ∧ n = cmn s (e - ((pS s p e l dp lz a b c i).1 + x)) ((pS s p e l dp lz a b c i).1 + x - d) ((pS s p e l dp lz a b c i).1 + x) := by
    intro i hi
    obtain ⟨x, d, n, v, y, z, k1, k2, k3, k4, k5, k6, k7, k8, k9, k10, k13⟩ := hpq i hi
    refine ⟨d, n, x, v, y, z, ?_, k1, k2, k3, k4, k5, k7, k13⟩
    unfold eK
    rw [hst i (by omega), hget i hi, k1]
    exact k10
  refine ⟨hqn, ?_, ?_, by omega, ?_, ?_⟩
  · rw [hqn] at hts; omega
  · intro i hi
    obtain ⟨x, d, n, v, y, z, k1, k2, k3, k4, k5, k6, k7, k8, k9, k10, k13⟩ := hpq i hi
    exact ⟨x, n, v, by rw [hget i hi, k1], by omega, k6, by omega, k8, k9⟩
  · intro i hi
    obtain ⟨d, n, x, v, y, z, k0, k1, k2, k3, k4, k5, k7, k13⟩ := hK i hi
    have h1 := hle (i + 1) hi
    rw [hLs i hi, k1] at h1
    simp only [Int.toNat_natCast] at h1
    have h5 : (d : Int) ≤ (2 : Int) ^ l.toNat := by exact_mod_cast k5
    unfold eErr
    rw [k0, hst i (by omega), hget i hi, k1]
    dsimp only
    rw [if_neg (by omega), if_neg (by simp only [ne_eq, not_true_eq_false, false_or]; omega)]
  · intro i hi
    refine ⟨(pLits s p e l dp lz a b c i).size, hle i hi, hst i hi, ?_, rfl⟩
    induction i with
    | zero =>
      simp only [eOut, pLits]
      rw [bI_extract, show (⟨#[]⟩ : ByteArray).size = 0 from rfl]
      simp [pS, psts]
    | succ i ih =>
      obtain ⟨d, n, x, v, y, z, k0, k1, k2, k3, k4, k5, k7, k13⟩ := hK i (by omega)
      have hq := hget i (by omega)
      rw [eOut, ih (by omega), hLs i (by omega), hq, k1, eDs_get _ _ _ _ _ _ (by omega), k0, k2]
      dsimp only
      simp only [Int.toNat_natCast]
      obtain ⟨T, hT⟩ := pLits_pre s p e l dp lz a b c qs.length (i + 1) hi
      have hbt : bI t = bI (pLits s p e l dp lz a b c i) ++ (((bI s).drop (pS s p e l dp lz a b c i).1).take x ++ (T ++ bI (s.extract (pS s p e l dp lz a b c qs.length).1 e))) := by
        rw [← ht0, ← hqn, bI_append, hT, pLits, bI_append, bI_extract, k1]
        simp only [Int.toNat_natCast, List.append_assoc]
        rw [show (pS s p e l dp lz a b c i).1 + x - (pS s p e l dp lz a b c i).1 = x by omega]
      have hS : (bI s).length = s.size := bI_len s
      have hxl : (((bI s).drop (pS s p e l dp lz a b c i).1).take x).length = x := by rw [List.length_take, List.length_drop]; omega
      have hdl : ((bI t).drop (pLits s p e l dp lz a b c i).size).take x = ((bI s).drop (pS s p e l dp lz a b c i).1).take x := by
        rw [hbt, show (pLits s p e l dp lz a b c i).size = (bI (pLits s p e l dp lz a b c i)).length from (bI_len _).symm, List.drop_left]
        exact (fun (A B : List Int) (h : A.length = x) => (by rw [← h]; exact List.take_left : (A ++ B).take x = A)) _ _ hxl
      rw [hdl, show (bI s).take (pS s p e l dp lz a b c i).1 ++ ((bI s).drop (pS s p e l dp lz a b c i).1).take x = (bI s).take ((pS s p e l dp lz a b c i).1 + x) from (List.take_add).symm]
      rw [repL_take _ _ _ _ k3 k4 (by omega)]
      intro k hk
      rw [bI_get, bI_get]
      have := cmn_get s _ _ _ k (by rw [← k13]; exact hk)
      rw [show (pS s p e l dp lz a b c i).1 + x + k - d = (pS s p e l dp lz a b c i).1 + x - d + k by omega, this]
/-- A block executed again gives itself. -/
theorem back_exec (s : ByteArray) (p e : Nat) (l dp : Int) (lz : Nat) (a b c : Int) (hp : p ≤ e) (he : e ≤ s.size) (hs : s.size ≤ 131072) (hc : chkL true [a, b, c] = 0)
    (qs : List (Int × Int × Int)) (t : ByteArray) (r : Int × Int × Int) (hB : pblock s p e l dp lz a b c = (qs, t, r)) (win : Int) (hw : (2 : Int) ^ l.toNat ≤ win) :
    Rexec qs t (s.extract 0 p) a b c win = (s.extract p e, r, 0) := by
  obtain ⟨h1, h2, h3, h4, h5, h6⟩ := back_all s p e l dp lz a b c hp he (by omega) hc qs t r hB win hw
  have hpz : (s.extract 0 p).size = p := by rw [ByteArray.size_extract]; omega
  have hall : qs.all sok = true := by
    rw [List.all_eq_true]
    intro q hq
    obtain ⟨i, hi, rfl⟩ := List.mem_iff_getElem.1 hq
    obtain ⟨x, n, v, e1, e2, e3, e4, e5, e6⟩ := h3 i hi
    have : qs.getD i (0, 0, 0) = qs[i] := by simp [List.getD_eq_getElem?_getD, hi]
    rw [this] at e1
    rw [e1]
    unfold sok
    simp only [Bool.and_eq_true, decide_eq_true_eq]
    omega
  have hsc : schk qs = 0 := schk_ok (by omega) hall
  have hw0 : (0 : Int) ≤ (2 : Int) ^ l.toNat := Int.le_of_lt (Int.pow_pos (by omega))
  obtain ⟨u, u1, u2, u3, u4⟩ := h6 _ (Nat.le_refl _)
  have hB2 := hB
  unfold pblock at hB2
  have ht0 := (Prod.mk.inj (Prod.mk.inj hB2).2).1
  have hr0 := (Prod.mk.inj (Prod.mk.inj hB2).2).2
  have g2 := (pS_ok s p e l dp lz a b c hp he (by omega) hc).2.1 _ (Nat.le_refl _)
  rw [← h1] at ht0 hr0 g2
  obtain ⟨o4, o5, o6, o7⟩ := g2.1
  have hts : t.size = (pLits s p e l dp lz a b c qs.length).size + (e - (pS s p e l dp lz a b c qs.length).1) := by
    rw [← ht0, ByteArray.size_append, ByteArray.size_extract]; omega
  have hbad : eBad win qs t.size p (a, b, c) qs.length = 0 := eBad_zero h5
  have hEA : eAll win qs t.size p (a, b, c) = 0 := by
    unfold eAll
    rw [if_neg (by simpa using hbad), u2]
    dsimp only
    rw [if_neg (by omega)]
  unfold Rexec
  rw [if_neg (by simpa using hsc), if_neg (by simpa using hc), if_neg (by omega), if_neg (by omega)]
  rw [hpz, if_neg (by simpa using hEA), u3, u2]
  dsimp only
  have hd : (bI t).drop u = bI (s.extract (pS s p e l dp lz a b c qs.length).1 e) := by
    rw [← ht0, bI_append, u4, show (pLits s p e l dp lz a b c qs.length).size = (bI (pLits s p e l dp lz a b c qs.length)).length from (bI_len _).symm, List.drop_left]
  rw [hd, bI_extract, show (bI s).take (pS s p e l dp lz a b c qs.length).1 ++ ((bI s).drop (pS s p e l dp lz a b c qs.length).1).take (e - (pS s p e l dp lz a b c qs.length).1) = (bI s).take ((pS s p e l dp lz a b c qs.length).1 + (e - (pS s p e l dp lz a b c qs.length).1)) from (List.take_add).symm]
  rw [show (pS s p e l dp lz a b c qs.length).1 + (e - (pS s p e l dp lz a b c qs.length).1) = e by omega, hr0]
  have : ((bI s).take e).drop p = bI (s.extract p e) := by rw [bI_extract, List.drop_take]
  rw [this, bI_str]
end Go.Proofs.Ytammacofhdbgcaa
