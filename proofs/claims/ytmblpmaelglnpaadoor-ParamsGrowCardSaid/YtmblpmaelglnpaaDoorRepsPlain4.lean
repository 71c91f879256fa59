/-
  Runs of sequences, as plain functions on lists: the distances, two parts, and that they are what the values were made of. No program in sight.
-/
import Derived.Test.YtmblpmaelglnpaaDoorRepsPlain3
import Derived.Lib.Hide
namespace Go.Proofs.YtmblpmaelglnpaaDoor
set_option linter.unusedVariables false
set_option linter.unusedSimpArgs false
/-- The distances of sequences (literals, match, value) from a history on: the distances, the last history, the error. -/
def rruns : Int → Int → Int → List (Int × Int × Int) → List Int × (Int × Int × Int) × Int
  | a, b, c, [] => ([], (a, b, c), 0)
  | a, b, c, q :: qs =>
    if (Rask a b c q.2.2 q.1).2.2 ≠ 0 then ([], (0, 0, 0), (Rask a b c q.2.2 q.1).2.2)
    else rput [(Rask a b c q.2.2 q.1).1] (rruns (Rask a b c q.2.2 q.1).2.1.1 (Rask a b c q.2.2 q.1).2.1.2.1 (Rask a b c q.2.2 q.1).2.1.2.2 qs)
/-- Run, with the errors of its arguments. -/
def Rruns (a b c : Int) (qs : List (Int × Int × Int)) : List Int × (Int × Int × Int) × Int :=
  if chkL true [a, b, c] ≠ 0 then ([], (0, 0, 0), chkL true [a, b, c])
  else if 100000 < qs.length then ([], (0, 0, 0), 6)
  else rruns a b c qs
theorem rput_rput (vs us : List Int) (r : List Int × (Int × Int × Int) × Int) : rput vs (rput us r) = rput (vs ++ us) r := by
  unfold rput
  by_cases h : r.2.2 = 0 <;> simp [h]
theorem rruns_shape (a b c : Int) (qs : List (Int × Int × Int)) : rput [] (rruns a b c qs) = rruns a b c qs := by
  cases qs with
  | nil => simp [rruns, rput]
  | cons q qs =>
    rw [rruns]
    split
    · rename_i h
      simp [rput, h]
    · rw [rput_rput, List.nil_append]
theorem rrun_err (vs : List Int) {a b c : Int} {q : Int × Int × Int} {qs : List (Int × Int × Int)} (h : (Rask a b c q.2.2 q.1).2.2 ≠ 0) : rput vs (rruns a b c (q :: qs)) = ([], (0, 0, 0), (Rask a b c q.2.2 q.1).2.2) := by
  rw [rruns, if_pos h]
  simp [rput, h]
theorem rrun_step (vs : List Int) {a b c : Int} {q : Int × Int × Int} {qs : List (Int × Int × Int)} (h : (Rask a b c q.2.2 q.1).2.2 = 0) :
    rput vs (rruns a b c (q :: qs)) = rput (vs ++ [(Rask a b c q.2.2 q.1).1]) (rruns (Rask a b c q.2.2 q.1).2.1.1 (Rask a b c q.2.2 q.1).2.1.2.1 (Rask a b c q.2.2 q.1).2.1.2.2 qs) := by
  rw [rruns, if_neg (by simpa using h), rput_rput]
/-- The history behind so many sequences; one that is wrong leaves it. -/
def rst (h : Int × Int × Int) (q : Int × Int × Int) : Int × Int × Int := if (Rask h.1 h.2.1 h.2.2 q.2.2 q.1).2.2 = 0 then (Rask h.1 h.2.1 h.2.2 q.2.2 q.1).2.1 else h
def rsts (h : Int × Int × Int) (qs : List (Int × Int × Int)) (k : Nat) : Int × Int × Int := (qs.take k).foldl rst h
def rak (h : Int × Int × Int) (qs : List (Int × Int × Int)) (k : Nat) : Int × (Int × Int × Int) × Int :=
  Rask (rsts h qs k).1 (rsts h qs k).2.1 (rsts h qs k).2.2 (qs.getD k (0, 0, 0)).2.2 (qs.getD k (0, 0, 0)).1
theorem rsts_zero (h : Int × Int × Int) (qs : List (Int × Int × Int)) : rsts h qs 0 = h := rfl
theorem rsts_succ (h : Int × Int × Int) (qs : List (Int × Int × Int)) (k : Nat) (hk : k < qs.length) : rsts h qs (k + 1) = if (rak h qs k).2.2 = 0 then (rak h qs k).2.1 else rsts h qs k := by
  unfold rak rsts
  rw [List.take_succ_eq_append_getElem hk, List.foldl_append]
  simp only [List.foldl_cons, List.foldl_nil, List.getD_eq_getElem?_getD, List.getElem?_eq_getElem hk, Option.getD_some]
  rfl
theorem drop_get {α : Type} {xs : List α} {k : Nat} (d : α) (h : k < xs.length) : xs.drop k = xs.getD k d :: xs.drop (k + 1) := by
  rw [List.drop_eq_getElem_cons h]
  simp [List.getD_eq_getElem?_getD, h]
theorem rruns_at (h : Int × Int × Int) (qs : List (Int × Int × Int)) : ∀ k, k ≤ qs.length → (∀ j, j < k → (rak h qs j).2.2 = 0) →
    rput ((List.range k).map fun j => (rak h qs j).1) (rruns (rsts h qs k).1 (rsts h qs k).2.1 (rsts h qs k).2.2 (qs.drop k)) = rruns h.1 h.2.1 h.2.2 qs := by
  intro k
  induction k with
  | zero => intro _ _; exact rruns_shape _ _ _ _
  | succ k ih =>
    intro hk h0
    have e0 := h0 k (by omega)
    rw [← ih (by omega) (fun j hj => h0 j (by omega)), drop_get (0, 0, 0) (show k < qs.length by omega), rrun_step _ e0, rsts_succ _ _ _ (by omega), if_pos e0, List.range_succ, List.map_append]
    rfl
theorem rruns_all (h : Int × Int × Int) (qs : List (Int × Int × Int)) (h0 : ∀ j, j < qs.length → (rak h qs j).2.2 = 0) :
    rruns h.1 h.2.1 h.2.2 qs = ((List.range qs.length).map fun j => (rak h qs j).1, rsts h qs qs.length, 0) := by
  rw [← rruns_at h qs qs.length (Nat.le_refl _) h0, List.drop_length]
  simp [rruns, rput]
theorem rruns_stop (h : Int × Int × Int) (qs : List (Int × Int × Int)) (k : Nat) (hk : k < qs.length) (h0 : ∀ j, j < k → (rak h qs j).2.2 = 0) (h1 : (rak h qs k).2.2 ≠ 0) :
    rruns h.1 h.2.1 h.2.2 qs = ([], (0, 0, 0), (rak h qs k).2.2) := by
  rw [← rruns_at h qs k (by omega) h0, drop_get (0, 0, 0) hk, rrun_err _ h1]
  rfl
/-- In two parts. -/
theorem rruns_append : ∀ (qs rs : List (Int × Int × Int)) (a b c : Int), (rruns a b c qs).2.2 = 0 →
    rruns a b c (qs ++ rs) = rput (rruns a b c qs).1 (rruns (rruns a b c qs).2.1.1 (rruns a b c qs).2.1.2.1 (rruns a b c qs).2.1.2.2 rs)
  | [], rs, a, b, c, _ => by rw [List.nil_append, rruns, rruns_shape]
  | q :: qs, rs, a, b, c, h => by
    by_cases h1 : (Rask a b c q.2.2 q.1).2.2 = 0
    · have e : ∀ ts, rruns a b c (q :: ts) = rput [(Rask a b c q.2.2 q.1).1] (rruns (Rask a b c q.2.2 q.1).2.1.1 (Rask a b c q.2.2 q.1).2.1.2.1 (Rask a b c q.2.2 q.1).2.1.2.2 ts) := fun ts => by
        rw [rruns, if_neg (by simpa using h1)]
      rw [e] at h
      rw [List.cons_append, e, e]
      have h2 : (rruns (Rask a b c q.2.2 q.1).2.1.1 (Rask a b c q.2.2 q.1).2.1.2.1 (Rask a b c q.2.2 q.1).2.1.2.2 qs).2.2 = 0 := by
        by_cases h3 : (rruns (Rask a b c q.2.2 q.1).2.1.1 (Rask a b c q.2.2 q.1).2.1.2.1 (Rask a b c q.2.2 q.1).2.1.2.2 qs).2.2 = 0
        · exact h3
        · unfold rput at h
          rw [if_pos h3] at h
          exact absurd h h3
      rw [rruns_append qs rs _ _ _ h2, rput_rput]
      have e4 : ∀ r : List Int × (Int × Int × Int) × Int, r.2.2 = 0 → rput [(Rask a b c q.2.2 q.1).1] r = ([(Rask a b c q.2.2 q.1).1] ++ r.1, r.2.1, 0) := fun r hr => by unfold rput; rw [if_neg (by simpa using hr)]
      rw [e4 _ h2]
    · rw [rruns, if_pos h1] at h
      exact absurd h h1
/-- One history knows as much as another, at least. -/
def wide (r s : Int × Int × Int) : Prop := (r.1 ≠ 0 → s.1 = r.1) ∧ (r.2.1 ≠ 0 → s.2.1 = r.2.1) ∧ (r.2.2 ≠ 0 → s.2.2 = r.2.2)
theorem wide_refl (r : Int × Int × Int) : wide r r := ⟨fun _ => rfl, fun _ => rfl, fun _ => rfl⟩
theorem rmean_wide {a b c x y z v l : Int} (h : (Rmean a b c v l).2.2 = 0) (hw : wide (a, b, c) (x, y, z)) :
    (Rmean x y z v l).1 = (Rmean a b c v l).1 ∧ (Rmean x y z v l).2.2 = 0 ∧ wide (Rmean a b c v l).2.1 (Rmean x y z v l).2.1 := by
  obtain ⟨h1, h2, h3⟩ := hw
  simp only at h1 h2 h3
  unfold Rmean at h ⊢
  unfold wide
  by_cases g1 : 3 < v
  · simp only [if_pos g1] at h ⊢
    exact ⟨trivial, trivial, fun _ => trivial, h1, h2⟩
  · simp only [if_neg g1] at h ⊢
    by_cases g2 : rAt v l = 3
    · simp only [if_pos g2] at h ⊢
      by_cases g3 : a = 0
      · simp [if_pos g3] at h
      · have e := h1 g3
        subst e
        simp only [if_neg g3] at h ⊢
        by_cases g4 : x = 1
        · simp [if_pos g4] at h
        · simp only [if_neg g4] at h ⊢
          exact ⟨trivial, trivial, fun _ => trivial, fun _ => trivial, h2⟩
    · simp only [if_neg g2] at h ⊢
      by_cases g5 : rAt v l = 0
      · simp only [if_pos g5] at h ⊢
        by_cases g3 : a = 0
        · simp [if_pos g3] at h
        · have e := h1 g3
          subst e
          simp only [if_neg g3] at h ⊢
          exact ⟨trivial, trivial, fun _ => trivial, h2, h3⟩
      · simp only [if_neg g5] at h ⊢
        by_cases g6 : rAt v l = 1
        · simp only [if_pos g6] at h ⊢
          by_cases g3 : b = 0
          · simp [if_pos g3] at h
          · have e := h2 g3
            subst e
            simp only [if_neg g3] at h ⊢
            exact ⟨trivial, trivial, fun _ => trivial, h1, h3⟩
        · simp only [if_neg g6] at h ⊢
          by_cases g3 : c = 0
          · simp [if_pos g3] at h
          · have e := h3 g3
            subst e
            simp only [if_neg g3] at h ⊢
            exact ⟨trivial, trivial, fun _ => trivial, h1, h2⟩
/-- Sequences of values and literals. -/
def mkq (vs ls : List Int) : List (Int × Int × Int) := List.zipWith (fun v l => (l, 3, v)) vs ls
theorem mkq_len (vs ls : List Int) : (mkq vs ls).length = min vs.length ls.length := by simp [mkq]
/-- The values of distances, and what a run over them gives, from the same history or from one that knows more. -/
theorem rvals_back : ∀ (ds ls : List Int) (a b c x y z : Int), chkL true [a, b, c] = 0 → chkL true [x, y, z] = 0 → wide (a, b, c) (x, y, z) → ls.length = ds.length → (∀ d ∈ ds, 1 ≤ d ∧ d ≤ 2147483648) → (∀ l ∈ ls, 0 ≤ l) →
    ∃ vs e u, rvals a b c ds ls = (vs, e, 0) ∧ vs.length = ds.length ∧ rruns x y z (mkq vs ls) = (ds, u, 0) ∧ wide e u ∧ ((a, b, c) = (x, y, z) → e = u)
  | [], ls, a, b, c, x, y, z, _, _, hw, hl, _, _ => by
    have : ls = [] := by simpa using hl
    subst this
    exact ⟨[], (a, b, c), (x, y, z), by simp [rvals], rfl, by simp [mkq, rruns], hw, fun h => h⟩
  | d :: ds, [], a, b, c, x, y, z, _, _, _, hl, _, _ => by simp at hl
  | d :: ds, l :: ls, a, b, c, x, y, z, hc, hx, hw, hl, hd, hll => by
    obtain ⟨d1, d2⟩ := hd d (by simp)
    have l1 := hll l (by simp)
    obtain ⟨v, h1, h2, h3, h4, h5, h6⟩ := rval_ok hc d1 d2 l1
    obtain ⟨g1, g2, g3, g4, _, _⟩ := rmean_ok hc h2 (by omega) l1 h5
    obtain ⟨w1, w2, w3⟩ := rmean_wide h5 hw
    obtain ⟨_, _, _, f4, _, _⟩ := rmean_ok hx h2 (by omega) l1 w2
    have h7 : Rask x y z v l = Rmean x y z v l := rask_ok hx (by omega) w2
    obtain ⟨vs, e, u, i1, i2, i3, i4, i5⟩ := rvals_back ds ls _ _ _ _ _ _ g4 f4 w3 (by simpa using hl) (fun d h => hd d (by simp [h])) (fun l h => hll l (by simp [h]))
    refine ⟨v :: vs, e, u, ?_, by simp [i2], ?_, i4, fun h => i5 (by cases h; rfl)⟩
    · rw [rvals]
      simp only [h1, h6, h5]
      rw [i1]
      simp
    · show rruns x y z ((l, 3, v) :: mkq vs ls) = _
      rw [rruns, if_neg (by simp [h7, w2])]
      simp only [h7]
      rw [i3, w1, h4]
      simp [rput]
/-- The values of distances, and the run over them, with the errors of the arguments. -/
theorem values_back {ds ls : List Int} {a b c x y z : Int} (hc : chkL true [a, b, c] = 0) (hx : chkL true [x, y, z] = 0) (hw : wide (a, b, c) (x, y, z)) (hl : ls.length = ds.length) (hn : ds.length ≤ 100000) (hd : ∀ d ∈ ds, 1 ≤ d ∧ d ≤ 2147483648) (hll : ∀ l ∈ ls, 0 ≤ l) :
    ∃ vs e1 e2 e3 u1 u2 u3, Rvalues a b c ds ls = (vs, (e1, e2, e3), 0) ∧ vs.length = ds.length ∧ Rruns a b c (mkq vs ls) = (ds, (e1, e2, e3), 0) ∧ Rruns x y z (mkq vs ls) = (ds, (u1, u2, u3), 0) := by
  obtain ⟨vs, ⟨e1, e2, e3⟩, ⟨u1, u2, u3⟩, h1, h2, h3, _⟩ := rvals_back ds ls a b c x y z hc hx hw hl hd hll
  obtain ⟨vs', e', u', g1, g2, g3, _, g5⟩ := rvals_back ds ls a b c a b c hc hc (wide_refl _) hl hd hll
  rw [h1] at g1
  simp only [Prod.mk.injEq] at g1
  obtain ⟨rfl, rfl, _⟩ := g1
  have h9 := g5 rfl
  have hq : (mkq vs ls).length ≤ 100000 := by rw [mkq_len]; omega
  refine ⟨vs, e1, e2, e3, u1, u2, u3, ?_, h2, ?_, ?_⟩
  · unfold Rvalues
    rw [if_neg (by simpa using hc), if_neg (by omega), if_neg (by simpa using hl), h1]
    simp [rput]
  · unfold Rruns
    rw [if_neg (by simpa using hc), if_neg (by omega), g3, ← h9]
  · unfold Rruns
    rw [if_neg (by simpa using hx), if_neg (by omega), h3]
end Go.Proofs.YtmblpmaelglnpaaDoor
