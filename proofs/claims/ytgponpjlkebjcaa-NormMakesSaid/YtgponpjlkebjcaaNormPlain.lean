/-
  Plain laws of distributions: probabilities of counts, what is left, and how it is taken away. No program in sight.
-/
import Derived.Test.YtgponpjlkebjcaaNorm4
namespace Go.Proofs.Ytgponpjlkebjcaa
open Go.RowKit
set_option linter.unusedSimpArgs false
set_option linter.unusedVariables false
/-- The probability of a count, before the rest is dealt out. -/
def prb (t : Int) (l : Nat) (c : Int) : Int := if shr c t l = 0 then -1 else shr c t l
def prz (t : Int) (l : Nat) (c : Int) : Int := if 0 < c then prb t l c else 0
/-- How many probabilities there are. -/
def many (xs : List Int) : Nat := (lst xs + 1).toNat
def base (xs : List Int) (t : Int) (l : Nat) : List Int := (xs.take (many xs)).map (prz t l)
theorem many_le (xs : List Int) : many xs ≤ xs.length := by
  unfold many
  have := lst_lt xs
  omega
theorem base_len (xs : List Int) (t : Int) (l : Nat) : (base xs t l).length = many xs := by
  have := many_le xs
  simp [base]
  omega
theorem pos_le_lst (xs : List Int) (k : Nat) (h : k < xs.length) (hp : 0 < xs.getD k 0) : (k : Int) ≤ lst xs := by
  have key : ∀ n, k + 1 + n ≤ xs.length → (k : Int) ≤ lst (xs.take (k + 1 + n)) := by
    intro n
    induction n with
    | zero =>
      intro _
      rw [Nat.add_zero, lst_take_succ h rfl, if_pos hp]
      omega
    | succ n ih =>
      intro hn
      rw [show k + 1 + (n + 1) = (k + 1 + n) + 1 by omega, lst_take_succ (by omega) rfl]
      split
      · omega
      · exact ih (by omega)
  have := key (xs.length - (k + 1)) (by omega)
  rwa [show k + 1 + (xs.length - (k + 1)) = xs.length by omega, List.take_length] at this
theorem occ_none : ∀ (s : Nat) (xs : List Int), (∀ x ∈ xs, ¬ 0 < x) → occ s xs = []
  | _, [], _ => rfl
  | s, x :: r, h => by
    unfold occ
    rw [if_neg (h x (by simp))]
    exact occ_none (s + 1) r (fun y hy => h y (by simp [hy]))
theorem drop_none (xs : List Int) : ∀ x ∈ xs.drop (many xs), ¬ 0 < x := by
  intro x hx hp
  obtain ⟨k, hk, rfl⟩ := List.getElem_of_mem hx
  rw [List.getElem_drop] at hp
  simp at hk
  have := pos_le_lst xs (many xs + k) (by omega) (by simp [show many xs + k < xs.length by omega]; exact hp)
  unfold many at this
  have h2 := lst_ge xs
  omega
theorem occ_cut (xs : List Int) : occ 0 xs = occ 0 (xs.take (many xs)) := by
  conv => lhs; rw [← List.take_append_drop (many xs) xs]
  rw [occ_append, occ_none _ _ (drop_none xs), List.append_nil]
/-- The array after so many symbols have been laid in. -/
def pst (t : Int) (l : Nat) (a : List Int) (q : Nat × Int) : List Int := a.set q.1 (prb t l q.2)
def pAt (xs : List Int) (t : Int) (l i : Nat) : List Int := ((occ 0 xs).take i).foldl (pst t l) (List.replicate (many xs) 0)
theorem foldl_pst_len (t : Int) (l : Nat) : ∀ (ps : List (Nat × Int)) (a : List Int), (ps.foldl (pst t l) a).length = a.length
  | [], _ => rfl
  | q :: r, a => by rw [List.foldl_cons, foldl_pst_len t l r]; simp [pst]
theorem pAt_len (xs : List Int) (t : Int) (l i : Nat) : (pAt xs t l i).length = many xs := by unfold pAt; rw [foldl_pst_len]; simp
theorem pAt_zero (xs : List Int) (t : Int) (l : Nat) : pAt xs t l 0 = List.replicate (many xs) 0 := rfl
theorem pAt_succ (xs : List Int) (t : Int) (l i : Nat) (h : i < (occ 0 xs).length) : pAt xs t l (i + 1) = pst t l (pAt xs t l i) ((occ 0 xs).getD i (0, 0)) := by
  unfold pAt
  rw [List.take_succ_eq_append_getElem h, List.foldl_append]
  simp [h]
theorem pst_occ (t : Int) (l : Nat) : ∀ (xs pre : List Int), (occ pre.length xs).foldl (pst t l) (pre ++ List.replicate xs.length 0) = pre ++ xs.map (prz t l)
  | [], pre => by simp [occ]
  | x :: r, pre => by
    unfold occ
    by_cases h : 0 < x
    · rw [if_pos h, List.foldl_cons]
      have e : pst t l (pre ++ List.replicate (x :: r).length 0) (pre.length, x) = (pre ++ [prb t l x]) ++ List.replicate r.length 0 := by
        unfold pst
        simp [List.replicate_succ]
      have := pst_occ t l r (pre ++ [prb t l x])
      simp only [List.length_append, List.length_cons, List.length_nil] at this
      rw [e, this]
      simp [prz, h]
    · rw [if_neg h]
      have := pst_occ t l r (pre ++ [0])
      simp only [List.length_append, List.length_cons, List.length_nil] at this
      rw [show pre ++ List.replicate (x :: r).length 0 = (pre ++ [0]) ++ List.replicate r.length (0 : Int) by simp [List.replicate_succ], this]
      simp [prz, h]
theorem pAt_all (xs : List Int) (t : Int) (l : Nat) : pAt xs t l (occ 0 xs).length = base xs t l := by
  unfold pAt base
  rw [List.take_length, occ_cut]
  have h := pst_occ t l (xs.take (many xs)) []
  have hl : (xs.take (many xs)).length = many xs := by have := many_le xs; simp; omega
  rw [hl] at h
  simpa using h
/-- What the first so many symbols weigh. -/
def sAt (xs : List Int) (t : Int) (l i : Nat) : Int := (((occ 0 xs).take i).map fun q => wgh (prb t l q.2)).sum
theorem sAt_zero (xs : List Int) (t : Int) (l : Nat) : sAt xs t l 0 = 0 := rfl
theorem sAt_succ (xs : List Int) (t : Int) (l i : Nat) (h : i < (occ 0 xs).length) : sAt xs t l (i + 1) = sAt xs t l i + wgh (prb t l ((occ 0 xs).getD i (0, 0)).2) := by
  unfold sAt
  rw [List.take_succ_eq_append_getElem h, List.map_append, List.sum_append]
  simp [h]
theorem sOcc (t : Int) (l : Nat) : ∀ (xs : List Int) (s : Nat), ((occ s xs).map fun q => wgh (prb t l q.2)).sum = wsum (xs.map (prz t l))
  | [], _ => rfl
  | x :: r, s => by
    have ih := sOcc t l r (s + 1)
    unfold wsum at ih ⊢
    unfold occ
    by_cases h : 0 < x
    · rw [if_pos h]
      simp only [List.map_cons, List.sum_cons, ih]
      unfold prz
      rw [if_pos h]
    · rw [if_neg h, ih]
      simp only [List.map_cons, List.sum_cons]
      have : wgh (prz t l x) = 0 := by unfold prz; rw [if_neg h]; rfl
      rw [this, Int.zero_add]
theorem sAt_all (xs : List Int) (t : Int) (l : Nat) : sAt xs t l (occ 0 xs).length = wsum (base xs t l) := by
  unfold sAt base
  rw [List.take_length, occ_cut, sOcc]
theorem shr_bd {c t : Int} {l : Nat} (h0 : 0 ≤ c) (h1 : c ≤ t) (ht : 0 < t) (hl : l ≤ 12) : 0 ≤ shr c t l ∧ shr c t l ≤ 4096 := by
  have hp := pow12 l hl
  unfold shr
  refine ⟨Int.ediv_nonneg (Int.mul_nonneg h0 (by omega)) (by omega), ?_⟩
  refine Int.le_of_lt_add_one (Int.ediv_lt_of_lt_mul ht ?_)
  have h3 : c * 2 ^ l ≤ t * 4096 := Int.mul_le_mul h1 hp.2 (by omega) (by omega)
  rw [Int.add_mul]
  omega
theorem prb_bd {c t : Int} {l : Nat} (h0 : 0 ≤ c) (h1 : c ≤ t) (ht : 0 < t) (hl : l ≤ 12) : -1 ≤ prb t l c ∧ prb t l c ≤ 4096 ∧ prb t l c ≠ 0 ∧ 1 ≤ wgh (prb t l c) ∧ wgh (prb t l c) ≤ 4096 := by
  have h := shr_bd h0 h1 ht hl
  unfold prb wgh
  split
  · simp
  · split <;> omega
theorem sum_ge : ∀ (xs : List Int) (k : Nat), rng xs = true → k < xs.length → xs.getD k 0 ≤ xs.sum
  | x :: r, 0, h, _ => by
    have h1 : (0 ≤ x ∧ x ≤ 1099511627776) ∧ rng r = true := by simpa [rng] using h
    have := (rng_sum h1.2).1
    simp
    omega
  | x :: r, k + 1, h, hk => by
    have h1 : (0 ≤ x ∧ x ≤ 1099511627776) ∧ rng r = true := by simpa [rng] using h
    have := sum_ge r k h1.2 (by simpa using hk)
    simp at this ⊢
    omega
theorem rng_get {xs : List Int} (h : rng xs = true) (k : Nat) : 0 ≤ xs.getD k 0 := by
  by_cases hk : k < xs.length
  · unfold rng at h
    rw [List.all_eq_true] at h
    have := h _ (List.getElem_mem hk)
    simp [hk]
    simp at this
    omega
  · simp [show xs.length ≤ k by omega]
theorem occ_sum_le {xs : List Int} {i : Nat} (hr : rng xs = true) (h : i < (occ 0 xs).length) : 0 < ((occ 0 xs).getD i (0, 0)).2 ∧ ((occ 0 xs).getD i (0, 0)).2 ≤ xs.sum ∧ ((occ 0 xs).getD i (0, 0)).1 < many xs := by
  obtain ⟨h1, h2, h3⟩ := occ_bound h
  have h4 := sum_ge xs _ hr h1
  rw [← h3] at h4
  have h5 := pos_le_lst xs _ h1 (by rw [← h3]; exact h2)
  refine ⟨h2, h4, ?_⟩
  unfold many
  omega
theorem sAt_bd {xs : List Int} {l : Nat} (hr : rng xs = true) (ht : 0 < xs.sum) (hl : l ≤ 12) : ∀ i, i ≤ (occ 0 xs).length → (i : Int) ≤ sAt xs xs.sum l i ∧ sAt xs xs.sum l i ≤ 4096 * i := by
  intro i
  induction i with
  | zero => intro _; simp [sAt]
  | succ i ih =>
    intro h
    obtain ⟨h1, h2⟩ := ih (by omega)
    obtain ⟨h3, h4, _⟩ := occ_sum_le hr (show i < (occ 0 xs).length by omega)
    have h5 := prb_bd (l := l) (by omega) h4 ht hl
    rw [sAt_succ _ _ _ _ (by omega)]
    push_cast
    omega
/-! The greatest -/
theorem amF_max (xs : List Int) : ∀ k j, j < k → xs.getD j 0 ≤ xs.getD (amF xs k) 0 := by
  intro k
  induction k with
  | zero => intro j h; omega
  | succ k ih =>
    intro j hj
    unfold amF
    by_cases hjk : j < k
    · have := ih j hjk
      split <;> omega
    · obtain rfl : j = k := by omega
      split <;> omega
theorem amx_max (xs : List Int) (j : Nat) (h : j < xs.length) : xs.getD j 0 ≤ xs.getD (amx xs) 0 := amF_max xs _ _ h
theorem amx_lt (xs : List Int) (h : 0 < xs.length) : amx xs < xs.length := amF_lt xs _ h
theorem amx_many {xs : List Int} (hr : rng xs = true) (ht : 0 < xs.sum) : amx xs < many xs ∧ 0 < xs.getD (amx xs) 0 := by
  have h0 : 0 < (occ 0 xs).length := by
    have := (occ_sum hr)
    rcases Nat.eq_zero_or_pos (occ 0 xs).length with h | h
    · have := this.1 h; omega
    · exact h
  obtain ⟨h1, h2, h3⟩ := occ_bound h0
  have h4 := amx_max xs _ h1
  have h5 : 0 < xs.length := by omega
  have h6 := amx_lt xs h5
  have h7 : 0 < xs.getD (amx xs) 0 := by rw [← h3] at h4; omega
  refine ⟨?_, h7⟩
  have := pos_le_lst xs _ h6 h7
  unfold many
  omega
/-- One taken away from the greatest. -/
def dec (ps : List Int) : List Int := ps.set (amx ps) (ps.getD (amx ps) 0 - 1)
def decs : Nat → List Int → List Int
  | 0, ps => ps
  | k + 1, ps => decs k (dec ps)
theorem dec_len (ps : List Int) : (dec ps).length = ps.length := by simp [dec]
theorem decs_len : ∀ (k : Nat) (ps : List Int), (decs k ps).length = ps.length
  | 0, _ => rfl
  | k + 1, ps => by rw [decs, decs_len k, dec_len]
theorem decs_succ (k : Nat) : ∀ ps : List Int, decs (k + 1) ps = dec (decs k ps) := by
  induction k with
  | zero => intro ps; rfl
  | succ k ih => intro ps; rw [decs, ih, decs]
/-- What is dealt out where something is left. -/
def give (xs : List Int) (b : List Int) (left : Int) : List Int := b.set (amx xs) (wgh (b.getD (amx xs) 0) + left)
/-- The probabilities of counts. -/
def dist0 (xs : List Int) (l : Nat) : List Int :=
  if 0 < (2 : Int) ^ l - wsum (base xs xs.sum l) then give xs (base xs xs.sum l) ((2 : Int) ^ l - wsum (base xs xs.sum l)) else decs (wsum (base xs xs.sum l) - (2 : Int) ^ l).toNat (base xs xs.sum l)
theorem dist0_len (xs : List Int) (l : Nat) : (dist0 xs l).length = many xs := by
  unfold dist0 give
  split
  · simp [base_len]
  · rw [decs_len, base_len]
/-- What With returns. -/
def rWith (xs : List Int) (log : Int) : (Int × List Int) × Int :=
  if (rChk xs).2.2 ≠ 0 then ((0, []), (rChk xs).2.2) else if log < 5 ∨ 12 < log then ((0, []), 31) else if (2 : Int) ^ log.toNat < (rChk xs).2.1 then ((0, []), 2) else ((log, dist0 xs log.toNat), 0)
/-- What Of returns. -/
def rOf (xs : List Int) (most : Int) : (Int × List Int) × Int := if (rLog xs most).2 ≠ 0 then ((0, []), (rLog xs most).2) else rWith xs (rLog xs most).1
/-- What hands back a distribution and an error. -/
def DistPost (R : (Int × List Int) × Int) (w : World) (e : Ending) (w' : World) : Prop :=
  ∃ pa ca, e = .returned (.tuple #[.agg #[.int .i64 R.1.1, .slice pa R.1.2.length ca], .int .i64 R.2]) ∧ (∀ g, (Value.slice pa R.1.2.length ca).ownBlock = some g → w.heap.size ≤ g) ∧ Row .i64 w' pa R.1.2 ∧ Below w.heap.size w w'
end Go.Proofs.Ytgponpjlkebjcaa
