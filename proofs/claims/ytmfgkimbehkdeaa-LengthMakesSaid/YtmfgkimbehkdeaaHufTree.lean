/-
  What the tree's depths are, leaf by leaf: their room, their total, and that no other lengths have a lesser one. No program in sight.
-/
import Derived.Test.YtmfgkimbehkdeaaHufBest
namespace Go.Proofs.Ytmfgkimbehkdeaa
set_option linter.unusedSimpArgs false
set_option linter.unusedVariables false
/-- The counts of all joined trees. -/
def HT.inner : HT → Nat | .leaf _ _ => 0 | .join c _ a b => c + (a.inner + b.inner)
def innerSum (l : List HT) : Nat := (l.map HT.inner).sum
theorem innerSum_perm {l l' : List HT} (p : l.Perm l') : innerSum l = innerSum l' := (p.map _).sum_nat
theorem pick_pair {P : List (Nat × Nat)} {x : Nat} {W : List Nat} (h : (P.map Prod.fst).Perm (x :: W)) : ∃ a R, P.Perm ((x, a) :: R) ∧ (R.map Prod.fst).Perm W := by
  obtain ⟨⟨y, a⟩, hp, e⟩ := List.mem_map.1 (h.mem_iff.2 (by simp : x ∈ x :: W))
  dsimp only at e
  subst e
  obtain ⟨S, T, rfl⟩ := List.append_of_mem hp
  have pm : (S ++ (y, a) :: T).Perm ((y, a) :: (S ++ T)) := List.perm_middle
  refine ⟨a, S ++ T, pm, ?_⟩
  exact ((pm.map Prod.fst).symm.trans h).cons_inv
theorem huff_best (M : Nat) : ∀ (k g : Nat) (l : List HT) (P : List (Nat × Nat)), 0 < g → Told g l → l.length = k + 1 → (P.map Prod.fst).Perm (l.map HT.cnt) → (∀ p ∈ P, p.2 ≤ M) → room M P ≤ 2 ^ M →
    innerSum (huff k g l) ≤ cost P + innerSum l := by
  intro k
  induction k with
  | zero => intro g l P _ _ _ _ _ _; exact Nat.le_add_left _ _
  | succ k ih =>
    intro g l P hg ht hl hP hM hr
    obtain ⟨x, y, r, h1, h2, h3⟩ := two_least (show 2 ≤ l.length by omega)
    have hp := one_of ht h1 h2 h3
    obtain ⟨t1, t2⟩ := one_told hg ht (by omega)
    obtain ⟨a, R1, p1, p2⟩ := pick_pair (hP.trans (h1.map HT.cnt).symm)
    obtain ⟨b, R, p3, p4⟩ := pick_pair p2
    have pp : P.Perm ((x.cnt, a) :: (y.cnt, b) :: R) := p1.trans (p3.cons _)
    have hM2 : ∀ p ∈ (x.cnt, a) :: (y.cnt, b) :: R, p.2 ≤ M := fun p h => hM p (pp.mem_iff.2 h)
    rw [room_perm pp] at hr
    obtain ⟨m, Q, q1, q2, q3, q4, q5⟩ := join_two M _ x.cnt y.cnt a b R (Nat.le_refl _) (nlt_cnt (h2 y (by simp)))
      (fun p hp => by
        have := p4.mem_iff.1 (List.mem_map.2 ⟨p, hp, rfl⟩)
        obtain ⟨z, hz, e⟩ := List.mem_map.1 this
        rw [← e]
        exact nlt_cnt (h3 z hz))
      (hM2 (x.cnt, a) (by simp)) (hM2 (y.cnt, b) (by simp)) (fun p hp => hM2 p (by simp [hp])) hr
    have hP2 : (((x.cnt + y.cnt, m) :: Q).map Prod.fst).Perm ((one g l).map HT.cnt) := by
      refine List.Perm.trans ?_ (hp.map HT.cnt).symm
      exact (q1.trans p4).cons _
    have := ih (g + 1) (one g l) ((x.cnt + y.cnt, m) :: Q) (by omega) t1 (by omega) hP2 (by
      intro p hp
      simp only [List.mem_cons] at hp
      rcases hp with rfl | hp
      · exact q2
      · exact q3 p hp) q4
    have e1 : innerSum (one g l) = (x.cnt + y.cnt) + innerSum l := by
      rw [innerSum_perm hp, ← innerSum_perm h1]
      simp [innerSum, HT.inner]
      omega
    rw [cost_perm pp]
    show innerSum (huff k (g + 1) (one g l)) ≤ _
    omega
/-- The leaves: symbol, count, depth. -/
def tl : HT → Nat → List (Nat × Nat × Nat)
  | .leaf c s, d => [(s, c, d)]
  | .join _ _ a b, d => tl a (d + 1) ++ tl b (d + 1)
/-- The leaves: symbol and count. -/
def lf : HT → List (Nat × Nat)
  | .leaf c s => [(s, c)]
  | .join _ _ a b => lf a ++ lf b
theorem tl_lf : ∀ (t : HT) (d : Nat), (tl t d).map (fun p => (p.1, p.2.1)) = lf t := by
  intro t
  induction t with
  | leaf c s => intro d; rfl
  | join c g a b iha ihb => intro d; simp [tl, lf, iha, ihb]
theorem tl_cost : ∀ (t : HT) (d : Nat), Fine t → ((tl t d).map (fun p => p.2.1 * p.2.2)).sum = d * t.cnt + t.inner := by
  intro t
  induction t with
  | leaf c s => intro d _; simp [tl, HT.cnt, HT.inner, Nat.mul_comm]
  | join c g a b iha ihb =>
    intro d h
    simp only [tl, List.map_append, List.sum_append_nat, iha (d + 1) h.2.2.2.1, ihb (d + 1) h.2.2.2.2]
    have e : c = a.cnt + b.cnt := h.1
    show _ = d * c + (c + (a.inner + b.inner))
    rw [e]
    simp only [Nat.mul_add, Nat.add_mul, Nat.one_mul]
    omega
theorem tl_room (H : Nat) : ∀ (t : HT) (d : Nat), d + t.height ≤ H → ((tl t d).map (fun p => 2 ^ (H - p.2.2))).sum = 2 ^ (H - d) := by
  intro t
  induction t with
  | leaf c s => intro d _; simp [tl]
  | join c g a b iha ihb =>
    intro d h
    have hh : d + (max a.height b.height + 1) ≤ H := h
    simp only [tl, List.map_append, List.sum_append_nat, iha (d + 1) (by omega), ihb (d + 1) (by omega)]
    rw [show H - d = (H - (d + 1)) + 1 by omega, Nat.pow_succ]
    omega
/-- The tree's height is a depth. -/
theorem tl_deep : ∀ (t : HT) (d : Nat), ∃ p ∈ tl t d, p.2.2 = d + t.height := by
  intro t
  induction t with
  | leaf c s => intro d; exact ⟨(s, c, d), by simp [tl], rfl⟩
  | join c g a b iha ihb =>
    intro d
    rcases Nat.le_total a.height b.height with h | h
    · obtain ⟨p, hp, e⟩ := ihb (d + 1)
      refine ⟨p, by simp [tl, hp], ?_⟩
      show p.2.2 = d + (max a.height b.height + 1)
      omega
    · obtain ⟨p, hp, e⟩ := iha (d + 1)
      refine ⟨p, by simp [tl, hp], ?_⟩
      show p.2.2 = d + (max a.height b.height + 1)
      omega
theorem tl_ge : ∀ (t : HT) (d : Nat), ∀ p ∈ tl t d, d ≤ p.2.2 := by
  intro t
  induction t with
  | leaf c s => intro d p h; simp [tl] at h; subst h; exact Nat.le_refl _
  | join c g a b iha ihb =>
    intro d p h
    simp only [tl, List.mem_append] at h
    rcases h with h | h
    · have := iha _ p h; omega
    · have := ihb _ p h; omega
/-- What is written for each symbol. -/
theorem wlk_other : ∀ (t : HT) (d : Nat) (out : List Nat) (s : Nat), (∀ c, (s, c) ∉ lf t) → (wlk t d out)[s]? = out[s]? := by
  intro t
  induction t with
  | leaf c k =>
    intro d out s h
    have : k ≠ s := fun e => h c (by simp [lf, e])
    simp [wlk, List.getElem?_set, this]
  | join c g a b iha ihb =>
    intro d out s h
    show (wlk b (d + 1) (wlk a (d + 1) out))[s]? = _
    rw [ihb _ _ _ (fun c hc => h c (by simp [lf, hc])), iha _ _ _ (fun c hc => h c (by simp [lf, hc]))]
theorem wlk_at : ∀ (t : HT) (d : Nat) (out : List Nat), ((lf t).map Prod.fst).Nodup → ∀ s c k, (s, c, k) ∈ tl t d → s < out.length → (wlk t d out)[s]? = some k := by
  intro t
  induction t with
  | leaf c s =>
    intro d out _ s' c' k h hl
    simp [tl] at h
    obtain ⟨rfl, rfl, rfl⟩ := h
    simp [wlk, List.getElem?_set, hl]
  | join c g a b iha ihb =>
    intro d out hn s c' k h hl
    simp only [lf, List.map_append, List.nodup_append] at hn
    obtain ⟨na, nb, nab⟩ := hn
    simp only [tl, List.mem_append] at h
    show (wlk b (d + 1) (wlk a (d + 1) out))[s]? = _
    rcases h with h | h
    · rw [wlk_other b _ _ s (fun c2 hc => ?_)]
      · exact iha _ _ na s c' k h hl
      · have h1 : (s, c') ∈ lf a := by rw [← tl_lf a (d + 1)]; exact List.mem_map.2 ⟨_, h, rfl⟩
        exact nab s (List.mem_map.2 ⟨_, h1, rfl⟩) s (List.mem_map.2 ⟨_, hc, rfl⟩) rfl
    · exact ihb _ _ nb s c' k h (by rw [wlk_length]; exact hl)
/-- The leaves of a forest stay the same. -/
theorem one_lf {l : List HT} {g : Nat} (hg : 0 < g) (ht : Told g l) (h : 2 ≤ l.length) : ((one g l).flatMap lf).Perm (l.flatMap lf) := by
  obtain ⟨x, y, r, h1, h2, h3⟩ := two_least h
  have hp := one_of ht h1 h2 h3
  refine (hp.flatMap_right lf).trans ?_
  refine List.Perm.trans ?_ (h1.flatMap_right lf)
  simp [lf]
theorem huff_lf : ∀ (k g : Nat) (l : List HT), 0 < g → Told g l → k + 1 ≤ l.length → ((huff k g l).flatMap lf).Perm (l.flatMap lf) := by
  intro k
  induction k with
  | zero => intro g l _ _ _; exact List.Perm.refl _
  | succ k ih =>
    intro g l hg ht hk
    obtain ⟨h1, h2⟩ := one_told hg ht (by omega)
    exact (ih (g + 1) _ (by omega) h1 (by omega)).trans (one_lf hg ht (by omega))
theorem leaves_lf_mem : ∀ (l : List Nat) (s k c : Nat), (k, c) ∈ (leaves s l).flatMap lf ↔ 0 < c ∧ s ≤ k ∧ l[k - s]? = some c := by
  intro l
  induction l with
  | nil => intro s k c; simp [leaves]
  | cons a l ih =>
    intro s k c
    have key : (k, c) ∈ (leaves (s + 1) l).flatMap lf ↔ 0 < c ∧ s + 1 ≤ k ∧ (a :: l)[k - s]? = some c := by
      rw [ih]
      constructor
      · rintro ⟨h1, h2, h3⟩
        exact ⟨h1, h2, by rw [show k - s = (k - (s + 1)) + 1 by omega]; exact h3⟩
      · rintro ⟨h1, h2, h3⟩
        rw [show k - s = (k - (s + 1)) + 1 by omega] at h3
        exact ⟨h1, h2, h3⟩
    unfold leaves
    split
    · rename_i ha
      rw [List.flatMap_cons, List.mem_append, key]
      simp only [lf, List.mem_singleton, Prod.mk.injEq]
      constructor
      · rintro (⟨rfl, rfl⟩ | ⟨h1, h2, h3⟩)
        · exact ⟨ha, Nat.le_refl _, by simp⟩
        · exact ⟨h1, by omega, h3⟩
      · rintro ⟨h1, h2, h3⟩
        by_cases e : k = s
        · subst e
          simp at h3
          exact .inl ⟨rfl, h3.symm⟩
        · exact .inr ⟨h1, by omega, h3⟩
    · rename_i ha
      rw [key]
      constructor
      · rintro ⟨h1, h2, h3⟩
        exact ⟨h1, by omega, h3⟩
      · rintro ⟨h1, h2, h3⟩
        by_cases e : k = s
        · subst e
          simp at h3
          omega
        · exact ⟨h1, by omega, h3⟩
theorem leaves_lf_nodup : ∀ (l : List Nat) (s : Nat), (((leaves s l).flatMap lf).map Prod.fst).Nodup := by
  intro l
  induction l with
  | nil => intro s; exact List.nodup_nil
  | cons a l ih =>
    intro s
    unfold leaves
    split
    · rw [List.flatMap_cons, List.map_append, List.nodup_append]
      refine ⟨by simp [lf], ih (s + 1), ?_⟩
      intro x hx y hy e
      simp [lf] at hx
      subst hx
      subst e
      obtain ⟨⟨k, c⟩, h1, h2⟩ := List.mem_map.1 hy
      dsimp only at h2
      subst h2
      have := (leaves_lf_mem l (k + 1) k c).1 h1
      omega
    · exact ih (s + 1)
/-- The symbols that occur: symbol, count, length. -/
def idx : Nat → List Nat → List Nat → List (Nat × Nat × Nat)
  | s, c :: l, d :: D => if 0 < c then (s, c, d) :: idx (s + 1) l D else idx (s + 1) l D
  | _, _, _ => []
theorem idx_mem : ∀ (l D : List Nat) (s k c d : Nat), (k, c, d) ∈ idx s l D ↔ 0 < c ∧ s ≤ k ∧ l[k - s]? = some c ∧ D[k - s]? = some d := by
  intro l
  induction l with
  | nil => intro D s k c d; simp [idx]
  | cons a l ih =>
    intro D s k c d
    cases D with
    | nil => simp [idx]
    | cons e D =>
      have key : (k, c, d) ∈ idx (s + 1) l D ↔ 0 < c ∧ s + 1 ≤ k ∧ (a :: l)[k - s]? = some c ∧ (e :: D)[k - s]? = some d := by
        rw [ih]
        constructor
        · rintro ⟨h1, h2, h3, h4⟩
          rw [show k - s = (k - (s + 1)) + 1 by omega]
          exact ⟨h1, h2, h3, h4⟩
        · rintro ⟨h1, h2, h3, h4⟩
          rw [show k - s = (k - (s + 1)) + 1 by omega] at h3 h4
          exact ⟨h1, h2, h3, h4⟩
      unfold idx
      split
      · rename_i ha
        rw [List.mem_cons, key]
        simp only [Prod.mk.injEq]
        constructor
        · rintro (⟨rfl, rfl, rfl⟩ | ⟨h1, h2, h3⟩)
          · exact ⟨ha, Nat.le_refl _, by simp, by simp⟩
          · exact ⟨h1, by omega, h3⟩
        · rintro ⟨h1, h2, h3, h4⟩
          by_cases e : k = s
          · subst e
            simp at h3 h4
            exact .inl ⟨rfl, h3.symm, h4.symm⟩
          · exact .inr ⟨h1, by omega, h3, h4⟩
      · rename_i ha
        rw [key]
        constructor
        · rintro ⟨h1, h2, h3⟩
          exact ⟨h1, by omega, h3⟩
        · rintro ⟨h1, h2, h3, h4⟩
          by_cases e : k = s
          · subst e
            simp at h3
            omega
          · exact ⟨h1, by omega, h3, h4⟩
theorem idx_nodup : ∀ (l D : List Nat) (s : Nat), (idx s l D).Nodup := by
  intro l
  induction l with
  | nil => intro D s; simp [idx]
  | cons a l ih =>
    intro D s
    cases D with
    | nil => simp [idx]
    | cons e D =>
      unfold idx
      split
      · rw [List.nodup_cons]
        refine ⟨fun h => ?_, ih D (s + 1)⟩
        have := (idx_mem l D (s + 1) s a e).1 h
        omega
      · exact ih D (s + 1)
theorem nodup_of_map {α β : Type} (f : α → β) : ∀ {l : List α}, (l.map f).Nodup → l.Nodup := by
  intro l
  induction l with
  | nil => intro _; exact List.nodup_nil
  | cons a l ih =>
    intro h
    rw [List.map_cons, List.nodup_cons] at h
    rw [List.nodup_cons]
    exact ⟨fun hm => h.1 (List.mem_map.2 ⟨a, hm, rfl⟩), ih h.2⟩
/-- The tree of counts: its leaves are just the symbols that occur, with their depths. -/
theorem depths_tree (l : List Nat) (h : 1 ≤ (leaves 0 l).length) : ∃ t, Fine t ∧ huff ((leaves 0 l).length - 1) 1 (leaves 0 l) = [t] ∧ (depthsL l).length = l.length ∧ (tl t 0).Perm (idx 0 l (depthsL l)) ∧
    (∀ s : Nat, l[s]? = some 0 → (depthsL l)[s]? = some 0) := by
  obtain ⟨t, h1, h2, h3, h4⟩ := huff_one l h
  have hp := huff_lf ((leaves 0 l).length - 1) 1 (leaves 0 l) (by omega) (leaves_told l 0) (by omega)
  rw [h1, List.flatMap_singleton] at hp
  have hn : ((lf t).map Prod.fst).Nodup := (hp.map Prod.fst).nodup_iff.2 (leaves_lf_nodup l 0)
  have hm : ∀ k c, (k, c) ∈ lf t ↔ 0 < c ∧ l[k]? = some c := by
    intro k c
    rw [hp.mem_iff, leaves_lf_mem]
    simp
  refine ⟨t, h2, h1, by rw [h4, wlk_length]; simp, ?_, ?_⟩
  · refine (List.perm_ext_iff_of_nodup ?_ (idx_nodup l _ 0)).2 ?_
    · refine nodup_of_map (fun p => (p.1, p.2.1)) ?_
      rw [tl_lf]
      exact nodup_of_map Prod.fst hn
    · rintro ⟨k, c, d⟩
      rw [idx_mem]
      simp only [Nat.sub_zero, Nat.zero_le, true_and]
      have at' : ∀ d, (k, c, d) ∈ tl t 0 → k < l.length ∧ 0 < c ∧ l[k]? = some c := by
        intro d hk
        have : (k, c) ∈ lf t := by rw [← tl_lf t 0]; exact List.mem_map.2 ⟨_, hk, rfl⟩
        obtain ⟨h5, h6⟩ := (hm k c).1 this
        exact ⟨(List.getElem?_eq_some_iff.1 h6).1, h5, h6⟩
      constructor
      · intro hk
        obtain ⟨h5, h6, h7⟩ := at' d hk
        refine ⟨h6, h7, ?_⟩
        rw [h4]
        exact wlk_at t 0 _ hn k c d hk (by simpa using h5)
      · rintro ⟨h5, h6, h7⟩
        have h8 := (hm k c).2 ⟨h5, h6⟩
        rw [← tl_lf t 0] at h8
        obtain ⟨⟨k', c', d'⟩, h9, h10⟩ := List.mem_map.1 h8
        simp only [Prod.mk.injEq] at h10
        obtain ⟨rfl, rfl⟩ := h10
        have h11 := wlk_at t 0 (List.replicate l.length 0) hn k' c' d' h9 (by simpa using (at' d' h9).1)
        rw [← h4, h7] at h11
        cases h11
        exact h9
  · intro s hs
    rw [h4, wlk_other t 0 _ s (fun c hc => by obtain ⟨q1, q2⟩ := (hm s c).1 hc; rw [hs] at q2; cases q2; omega)]
    have := (List.getElem?_eq_some_iff.1 hs).1
    simp [this]
end Go.Proofs.Ytmfgkimbehkdeaa
