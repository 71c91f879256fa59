/-
  Plain laws of counts: what the program's and the reference's loops come to. No program in sight.
-/
import Derived.Test.YtmfgkimbehkdeaaRows
import Derived.Test.YtmfgkimbehkdeaaCounts
import Derived.Test.YtmfgkimbehkdeaaCountsIter
namespace Go.Proofs.Ytmfgkimbehkdeaa
open Go.RowKit
set_option linter.unusedSimpArgs false
set_option linter.unusedVariables false
/-- All from 0 to the greatest count. -/
def rng (xs : List Int) : Bool := xs.all fun x => decide (0 ≤ x) && decide (x ≤ 1099511627776)
theorem rng_sum {xs : List Int} (h : rng xs = true) : 0 ≤ xs.sum ∧ xs.sum ≤ 1099511627776 * xs.length := by
  induction xs with
  | nil => simp
  | cons x r ih =>
    simp [rng] at h
    have h2 := ih (by simp [rng]; exact h.2)
    simp only [List.sum_cons, List.length_cons]
    push_cast
    omega
theorem cok_iff (n : Int) (xs : List Int) (hn : n ≤ 1099511627776) : cok n xs = (rng xs && decide (n + xs.sum ≤ 1099511627776)) := by
  induction xs generalizing n with
  | nil => simp [cok, rng, hn]
  | cons x r ih =>
    by_cases hx : 0 ≤ x ∧ x ≤ 1099511627776 ∧ n + x ≤ 1099511627776
    · rw [cok_good hx, ih _ hx.2.2]
      have e : rng (x :: r) = rng r := by simp [rng, hx]
      rw [e, List.sum_cons, Int.add_assoc]
    · rw [cok_bad hx]
      symm
      rw [Bool.and_eq_false_iff]
      by_cases hr : rng (x :: r) = true
      · right
        have hr1 : (0 ≤ x ∧ x ≤ 1099511627776) := by simp [rng] at hr; exact hr.1
        have hr2 : rng r = true := by simp [rng] at hr ⊢; exact hr.2
        have h5 := (rng_sum hr2).1
        rw [List.sum_cons]
        apply decide_eq_false
        omega
      · left
        simpa using hr
theorem rng_take_succ {xs : List Int} {k : Nat} {x : Int} (h : k < xs.length) (hx : xs.getD k 0 = x) : rng (xs.take (k + 1)) = (rng (xs.take k) && (decide (0 ≤ x) && decide (x ≤ 1099511627776))) := by
  simp [h] at hx
  rw [List.take_succ_eq_append_getElem h]
  simp [rng, hx]
theorem sum_take_succ {xs : List Int} {k : Nat} {x : Int} (h : k < xs.length) (hx : xs.getD k 0 = x) : (xs.take (k + 1)).sum = (xs.take k).sum + x := by
  simp [h] at hx
  rw [List.take_succ_eq_append_getElem h]
  simp [hx]
theorem rng_take_bad {xs : List Int} {k : Nat} {x : Int} (h : k < xs.length) (hx : xs.getD k 0 = x) (hb : ¬ (0 ≤ x ∧ x ≤ 1099511627776)) : rng xs = false := by
  simp [h] at hx
  rw [← Bool.not_eq_true]
  intro hr
  simp [rng] at hr
  have := hr xs[k] (by simp)
  rw [hx] at this
  exact hb this
theorem cchk_ok {xs : List Int} (h : cchk xs = 0) : xs.length ≤ 256 ∧ rng xs = true ∧ xs.sum ≤ 1099511627776 ∧ 0 ≤ xs.sum := by
  unfold cchk at h
  split at h
  · simp at h
  · split at h
    · rename_i h1 h2
      rw [cok_iff _ _ (by omega)] at h2
      simp at h2
      exact ⟨by omega, h2.1, by omega, (rng_sum h2.1).1⟩
    · simp at h
/-! Which occur, by places. -/
theorem occ_append (s : Nat) (xs ys : List Int) : occ s (xs ++ ys) = occ s xs ++ occ (s + xs.length) ys := by
  induction xs generalizing s with
  | nil => simp [occ]
  | cons x r ih =>
    have e : s + (r.length + 1) = s + 1 + r.length := by omega
    by_cases h : 0 < x <;> simp [occ, h, ih, e]
/-- The last symbol that occurs; -1: none. -/
def lst : List Int → Int := fun xs => match (occ 0 xs).getLast? with | none => -1 | some p => (p.1 : Int)
theorem lst_nil : lst [] = -1 := rfl
theorem lst_snoc (xs : List Int) (x : Int) : lst (xs ++ [x]) = if 0 < x then (xs.length : Int) else lst xs := by
  unfold lst
  rw [occ_append]
  by_cases h : 0 < x <;> simp [occ, h]
theorem lst_take_succ {xs : List Int} {k : Nat} {x : Int} (h : k < xs.length) (hx : xs.getD k 0 = x) : lst (xs.take (k + 1)) = if 0 < x then (k : Int) else lst (xs.take k) := by
  simp [h] at hx
  rw [List.take_succ_eq_append_getElem h, hx, lst_snoc]
  simp [Nat.min_eq_left (Nat.le_of_lt h)]
theorem lst_ge (xs : List Int) : -1 ≤ lst xs := by
  unfold lst
  split <;> omega
theorem lst_lt (xs : List Int) : lst xs < xs.length ∨ lst xs = -1 := by
  induction h : xs.length generalizing xs with
  | zero => simp at h; subst h; right; rfl
  | succ n ih =>
    obtain ⟨ys, y, rfl⟩ : ∃ ys y, xs = ys ++ [y] := by
      rcases List.eq_nil_or_concat xs with h1 | ⟨ys, y, h1⟩
      · subst h1; simp at h
      · exact ⟨ys, y, by simpa using h1⟩
    simp at h
    rw [lst_snoc]
    split
    · left; omega
    · rcases ih ys h with h2 | h2
      · left; omega
      · right; exact h2
theorem lst_pos {xs : List Int} (h : 0 ≤ lst xs) : 0 < xs.getD (lst xs).toNat 0 := by
  induction hn : xs.length generalizing xs with
  | zero => simp at hn; subst hn; simp [lst_nil] at h
  | succ n ih =>
    obtain ⟨ys, y, rfl⟩ : ∃ ys y, xs = ys ++ [y] := by
      rcases List.eq_nil_or_concat xs with h1 | ⟨ys, y, h1⟩
      · subst h1; simp at hn
      · exact ⟨ys, y, by simpa using h1⟩
    simp at hn
    rw [lst_snoc] at h ⊢
    by_cases hy : 0 < y
    · simp [hy]
    · simp only [hy, if_false] at h ⊢
      have h1 := ih h hn
      have h2 := lst_lt ys
      have h3 : (lst ys).toNat < ys.length := by omega
      rw [List.getD_eq_getElem?_getD, List.getElem?_append_left h3, ← List.getD_eq_getElem?_getD]
      exact h1
/-- What the range's rounds hold: the last symbol after i rounds. -/
def lastAt (xs : List Int) (i : Nat) : Int := if i = 0 then -1 else (((occ 0 xs).getD (i - 1) (0, 0)).1 : Int)
theorem lastAt_all (xs : List Int) : lastAt xs (occ 0 xs).length = lst xs := by
  unfold lastAt lst
  rw [List.getLast?_eq_getElem?]
  by_cases h : (occ 0 xs).length = 0
  · have : occ 0 xs = [] := by simpa using h
    simp [this]
  · rw [if_neg h]
    have h2 : (occ 0 xs).length - 1 < (occ 0 xs).length := by omega
    simp [h2]
theorem occ_nil_iff (xs : List Int) : (occ 0 xs).length = 0 ↔ lst xs = -1 := by
  unfold lst
  rw [List.getLast?_eq_getElem?]
  by_cases h : (occ 0 xs).length = 0
  · have : occ 0 xs = [] := by simpa using h
    simp [this]
  · have h2 : (occ 0 xs).length - 1 < (occ 0 xs).length := by omega
    simp only [h, false_iff]
    rw [List.getElem?_eq_getElem h2]
    simp
/-- The symbol with the greatest count: the first one. s: the next place; b, c: the best so far. -/
def gf : Nat → Int × Int → List Int → Int × Int
  | _, p, [] => p
  | s, p, n :: r => gf (s + 1) (if p.2 < n then ((s : Int), n) else p) r
def gst (p : Int × Int) (q : Nat × Int) : Int × Int := if p.2 < q.2 then ((q.1 : Int), q.2) else p
theorem gf_occ (s : Nat) (p : Int × Int) (xs : List Int) (h : 0 ≤ p.2) : (occ s xs).foldl gst p = gf s p xs := by
  induction xs generalizing s p with
  | nil => rfl
  | cons n r ih =>
    by_cases hn : 0 < n
    · simp only [occ, hn, if_true, List.foldl_cons, gf]
      have e : gst p (s, n) = if p.2 < n then ((s : Int), n) else p := rfl
      rw [e]
      apply ih
      split
      · exact Int.le_of_lt hn
      · exact h
    · simp only [occ, hn, if_false, gf]
      rw [if_neg (by omega)]
      exact ih _ _ h
def gr (xs : List Int) : Int × Int := gf 0 (0, 0) xs
def grAt (xs : List Int) (i : Nat) : Int × Int := ((occ 0 xs).take i).foldl gst (0, 0)
theorem grAt_zero (xs : List Int) : grAt xs 0 = (0, 0) := rfl
theorem grAt_succ (xs : List Int) (i : Nat) (h : i < (occ 0 xs).length) : grAt xs (i + 1) = gst (grAt xs i) ((occ 0 xs).getD i (0, 0)) := by
  unfold grAt
  rw [List.take_succ_eq_append_getElem h, List.foldl_append]
  simp [h]
theorem grAt_all (xs : List Int) : grAt xs (occ 0 xs).length = gr xs := by
  unfold grAt gr
  rw [List.take_length]
  exact gf_occ 0 (0, 0) xs (by simp)
theorem gf_ge (s : Nat) (p : Int × Int) (xs : List Int) : p.2 ≤ (gf s p xs).2 := by
  induction xs generalizing s p with
  | nil => exact Int.le_refl _
  | cons n r ih =>
    simp only [gf]
    refine Int.le_trans ?_ (ih _ _)
    split
    · simp; omega
    · exact Int.le_refl _
theorem gf_zero_iff (s : Nat) (xs : List Int) (k : Int) : (gf s (k, 0) xs).2 = 0 ↔ occ s xs = [] := by
  induction xs generalizing s k with
  | nil => simp [gf, occ]
  | cons n r ih =>
    by_cases hn : 0 < n
    · simp only [gf, occ, hn, if_true]
      have := gf_ge (s + 1) ((s : Int), n) r
      simp only at this
      constructor
      · intro h; omega
      · intro h; simp at h
    · simp only [gf, occ, hn, if_false]
      exact ih _ _
def gE (xs : List Int) : Int := if (gr xs).2 = 0 then 7 else 0
theorem gr_zero {xs : List Int} (h : (gr xs).2 = 0) : (gr xs).1 = 0 := by
  have key : ∀ (ys : List Int) (s : Nat), occ s ys = [] → gf s (0, 0) ys = (0, 0) := by
    intro ys
    induction ys with
    | nil => intro s _; rfl
    | cons n r ih =>
      intro s hs
      by_cases hn : 0 < n
      · simp [occ, hn] at hs
      · simp only [occ, hn, if_false] at hs
        simp only [gf, hn, if_false]
        exact ih _ hs
  unfold gr at h ⊢
  rw [key xs 0 ((gf_zero_iff 0 xs 0).1 h)]
/-- The first part of the places, taken one by one from the front: the reference's way. -/
theorem gf_take_succ {xs : List Int} {k : Nat} {x : Int} (h : k < xs.length) (hx : xs.getD k 0 = x) : gf 0 (0, 0) (xs.take (k + 1)) = if (gf 0 (0, 0) (xs.take k)).2 < x then ((k : Int), x) else gf 0 (0, 0) (xs.take k) := by
  have key : ∀ (ys : List Int) (s : Nat) (p : Int × Int), gf s p (ys ++ [x]) = if (gf s p ys).2 < x then (((s + ys.length : Nat) : Int), x) else gf s p ys := by
    intro ys
    induction ys with
    | nil => intro s p; show (if p.2 < x then _ else _) = _; rfl
    | cons y r ih =>
      intro s p
      show gf (s + 1) _ (r ++ [x]) = _
      rw [ih]
      have e : s + 1 + r.length = s + (y :: r).length := by simp; omega
      rw [e]
      rfl
  simp [h] at hx
  rw [List.take_succ_eq_append_getElem h, hx, key]
  simp [Nat.min_eq_left (Nat.le_of_lt h)]
/-- Are all that occur covered? -/
def cov (xs : List Int) (bs : List Bool) : Bool := (occ 0 xs).all fun p => bs.getD p.1 false
theorem cov_all {xs : List Int} {bs : List Bool} (h : ∀ i, i < (occ 0 xs).length → bs.getD ((occ 0 xs).getD i (0, 0)).1 false = true) : cov xs bs = true := by
  unfold cov
  rw [List.all_eq_true]
  intro p hp
  obtain ⟨i, hi, rfl⟩ := List.getElem_of_mem hp
  have := h i hi
  simpa [hi] using this
theorem cov_bad {xs : List Int} {bs : List Bool} {i : Nat} (hi : i < (occ 0 xs).length) (h : bs.getD ((occ 0 xs).getD i (0, 0)).1 false = false) : cov xs bs = false := by
  rw [← Bool.not_eq_true]
  intro hc
  unfold cov at hc
  rw [List.all_eq_true] at hc
  have := hc (occ 0 xs)[i] (by simp)
  simp [hi] at h
  simp_all
theorem cov_bad_at {xs : List Int} {bs : List Bool} {k : Nat} {x : Int} (h : k < xs.length) (hx : xs.getD k 0 = x) (hp : 0 < x) (hb : bs.getD k false = false) : cov xs bs = false := by
  obtain ⟨h1, h2⟩ := occ_at xs 0 k h (by rw [hx]; exact hp)
  refine cov_bad h1 ?_
  rw [h2]
  simpa using hb
theorem cov_take_succ {xs : List Int} {bs : List Bool} {k : Nat} {x : Int} (h : k < xs.length) (hx : xs.getD k 0 = x) : cov (xs.take (k + 1)) bs = (cov (xs.take k) bs && (decide (¬ 0 < x) || bs.getD k false)) := by
  simp [h] at hx
  rw [List.take_succ_eq_append_getElem h, hx]
  unfold cov
  rw [occ_append, List.all_append]
  by_cases hp : 0 < x <;> simp [occ, hp, Nat.min_eq_left (Nat.le_of_lt h)]
/-- Halved. -/
def hlv (xs : List Int) : List Int := xs.map fun n => n - n / 2
theorem hlv_len (xs : List Int) : (hlv xs).length = xs.length := by simp [hlv]
def hst (l : List Int) (q : Nat × Int) : List Int := l.set q.1 (q.2 - q.2 / 2)
def hAt (xs : List Int) (i : Nat) : List Int := ((occ 0 xs).take i).foldl hst (List.replicate xs.length 0)
theorem foldl_hst_len (ps : List (Nat × Int)) (l : List Int) : (ps.foldl hst l).length = l.length := by
  induction ps generalizing l with
  | nil => rfl
  | cons p r ih => simp [ih, hst]
theorem hAt_len (xs : List Int) (i : Nat) : (hAt xs i).length = xs.length := by unfold hAt; rw [foldl_hst_len]; simp
theorem hAt_succ (xs : List Int) (i : Nat) (h : i < (occ 0 xs).length) : hAt xs (i + 1) = hst (hAt xs i) ((occ 0 xs).getD i (0, 0)) := by
  unfold hAt
  rw [List.take_succ_eq_append_getElem h, List.foldl_append]
  simp [h]
theorem hst_occ (pre xs : List Int) (h : ∀ x ∈ xs, 0 ≤ x) : (occ pre.length xs).foldl hst (pre ++ List.replicate xs.length 0) = pre ++ hlv xs := by
  induction xs generalizing pre with
  | nil => simp [occ, hlv]
  | cons x r ih =>
    have h0 := h x (by simp)
    have h1 := ih (pre ++ [x - x / 2]) (fun y hy => h y (by simp [hy]))
    simp only [List.length_append, List.length_cons, List.length_nil, List.append_assoc, List.cons_append, List.nil_append, Nat.zero_add] at h1
    by_cases hx : 0 < x
    · simp only [occ, hx, if_true, List.foldl_cons]
      have e : hst (pre ++ List.replicate (x :: r).length 0) (pre.length, x) = pre ++ (x - x / 2) :: List.replicate r.length 0 := by
        simp [hst, List.replicate_succ]
      rw [e, h1]
      simp [hlv]
    · have hx0 : x = 0 := by omega
      subst hx0
      simp only [occ, Int.lt_irrefl, if_false]
      simp at h1
      simpa [hlv, List.replicate_succ] using h1
theorem hAt_all (xs : List Int) (h : rng xs = true) : hAt xs (occ 0 xs).length = hlv xs := by
  unfold hAt
  rw [List.take_length]
  have := hst_occ [] xs (fun x hx => by simp [rng] at h; exact (h x hx).1)
  simpa using this
theorem occ_bound {xs : List Int} {i : Nat} (h : i < (occ 0 xs).length) : ((occ 0 xs).getD i (0, 0)).1 < xs.length ∧ 0 < ((occ 0 xs).getD i (0, 0)).2 ∧ ((occ 0 xs).getD i (0, 0)).2 = xs.getD ((occ 0 xs).getD i (0, 0)).1 0 := by
  have key : ∀ (ys : List Int) (s : Nat) (p : Nat × Int), p ∈ occ s ys → s ≤ p.1 ∧ p.1 < s + ys.length ∧ 0 < p.2 ∧ p.2 = ys.getD (p.1 - s) 0 := by
    intro ys
    induction ys with
    | nil => intro s p hp; simp [occ] at hp
    | cons y r ih =>
      intro s p hp
      by_cases hy : 0 < y
      · simp only [occ, hy, if_true, List.mem_cons] at hp
        rcases hp with hp | hp
        · subst hp; simp [hy]
        · obtain ⟨h1, h2, h3, h4⟩ := ih _ _ hp
          refine ⟨by omega, by simp; omega, h3, ?_⟩
          rw [h4]
          have : p.1 - s = (p.1 - (s + 1)) + 1 := by omega
          rw [this, List.getD_cons_succ]
      · simp only [occ, hy, if_false] at hp
        obtain ⟨h1, h2, h3, h4⟩ := ih _ _ hp
        refine ⟨by omega, by simp; omega, h3, ?_⟩
        rw [h4]
        have : p.1 - s = (p.1 - (s + 1)) + 1 := by omega
        rw [this, List.getD_cons_succ]
  have hm : (occ 0 xs).getD i (0, 0) ∈ occ 0 xs := by simp [h]
  obtain ⟨_, h2, h3, h4⟩ := key xs 0 _ hm
  exact ⟨by simpa using h2, h3, by simpa using h4⟩
theorem occ_le {xs : List Int} {i : Nat} (hr : rng xs = true) (h : i < (occ 0 xs).length) : ((occ 0 xs).getD i (0, 0)).2 ≤ 1099511627776 := by
  obtain ⟨h1, _, h3⟩ := occ_bound h
  rw [h3]
  simp [rng] at hr
  have := hr xs[((occ 0 xs).getD i (0, 0)).1] (by simp)
  rw [List.getD_eq_getElem?_getD, List.getElem?_eq_getElem h1]
  exact this.2
theorem hlv_get {xs : List Int} {k : Nat} {x : Int} (h : k < xs.length) (hx : xs.getD k 0 = x) : (hlv xs).getD k 0 = x - x / 2 := by
  simp [h] at hx
  simp [hlv, h, hx]
theorem hlv_take_succ {xs : List Int} {k : Nat} {x : Int} (h : k < xs.length) (hx : xs.getD k 0 = x) : hlv (xs.take (k + 1)) = hlv (xs.take k) ++ [x - x / 2] := by
  simp [h] at hx
  rw [List.take_succ_eq_append_getElem h, hx]
  simp [hlv]
/-! Tallies -/
def bump (l : List Int) (k : Nat) : List Int := l.set k (l.getD k 0 + 1)
def tally (m : Nat) (ks : List Nat) : List Int := ks.foldl bump (List.replicate m 0)
theorem bump_len (l : List Int) (k : Nat) : (bump l k).length = l.length := by simp [bump]
theorem foldl_bump_len (ks : List Nat) (l : List Int) : (ks.foldl bump l).length = l.length := by
  induction ks generalizing l with
  | nil => rfl
  | cons p r ih => simp [ih, bump]
theorem tally_len (m : Nat) (ks : List Nat) : (tally m ks).length = m := by unfold tally; rw [foldl_bump_len]; simp
theorem bump_take (l : List Int) (k n : Nat) (h : k < n) : (bump l k).take n = bump (l.take n) k := by
  unfold bump
  rw [List.take_set]
  simp [List.getD_eq_getElem?_getD, List.getElem?_take, h]
theorem tally_take (m n : Nat) (ks : List Nat) (hm : n ≤ m) (h : ∀ k ∈ ks, k < n) : (tally m ks).take n = tally n ks := by
  have key : ∀ (ks : List Nat) (l : List Int), (∀ k ∈ ks, k < n) → (ks.foldl bump l).take n = ks.foldl bump (l.take n) := by
    intro ks
    induction ks with
    | nil => intro l _; rfl
    | cons k r ih =>
      intro l hk
      simp only [List.foldl_cons]
      rw [ih _ (fun j hj => hk j (by simp [hj])), bump_take l k n (hk k (by simp))]
  unfold tally
  rw [key ks _ h]
  simp [List.take_replicate, Nat.min_eq_left hm]
theorem tally_snoc (m : Nat) (ks : List Nat) (k : Nat) : tally m (ks ++ [k]) = bump (tally m ks) k := by simp [tally, List.foldl_append]
theorem tally_le (m : Nat) (ks : List Nat) (j : Nat) : 0 ≤ (tally m ks).getD j 0 ∧ (tally m ks).getD j 0 ≤ ks.length := by
  have key : ∀ (ks : List Nat) (l : List Int) (c : Nat), (∀ j, 0 ≤ l.getD j 0 ∧ l.getD j 0 ≤ c) → ∀ j, 0 ≤ (ks.foldl bump l).getD j 0 ∧ (ks.foldl bump l).getD j 0 ≤ (c + ks.length : Nat) := by
    intro ks
    induction ks with
    | nil => intro l c h j; simpa using h j
    | cons k r ih =>
      intro l c h j
      simp only [List.foldl_cons]
      have := ih (bump l k) (c + 1) (fun j => by
        have h1 := h k
        have h2 := h j
        unfold bump
        rw [List.getD_eq_getElem?_getD, List.getElem?_set]
        split
        · split
          · simp only [Option.getD_some]; omega
          · simp only [Option.getD_none]; omega
        · rw [← List.getD_eq_getElem?_getD]; omega) j
      have e : c + 1 + r.length = c + (k :: r).length := by simp; omega
      rwa [e] at this
  have := key ks (List.replicate m 0) 0 (fun j => by
    rw [List.getD_eq_getElem?_getD, List.getElem?_replicate]; split <;> simp) j
  simpa [tally] using this
end Go.Proofs.Ytmfgkimbehkdeaa
