/-
  Lengths of counts: what the halvings keep; complete lengths. No program in sight.
-/
import Derived.Test.YtmfgkimbehkdeaaHufLaws
namespace Go.Proofs.Ytmfgkimbehkdeaa
set_option linter.unusedSimpArgs false
set_option linter.unusedVariables false
/-- The same symbols occur. -/
def Alike (l l' : List Nat) : Prop := l.length = l'.length ∧ ∀ s : Nat, (l[s]? = some 0 ↔ l'[s]? = some 0)
theorem Alike.refl (l : List Nat) : Alike l l := ⟨rfl, fun s => Iff.rfl⟩
theorem Alike.trans {a b c : List Nat} (h : Alike a b) (k : Alike b c) : Alike a c := ⟨h.1.trans k.1, fun s => (h.2 s).trans (k.2 s)⟩
theorem alike_halve (l : List Nat) : Alike l (halve l) := by
  refine ⟨by simp [halve], fun s => ?_⟩
  unfold halve
  rw [List.getElem?_map]
  cases l[s]? with
  | none => simp
  | some c =>
    simp
    omega
theorem Alike.leaves : ∀ {l l' : List Nat}, Alike l l' → ∀ s, (leaves s l).length = (leaves s l').length := by
  intro l
  induction l with
  | nil =>
    intro l' h s
    have := h.1
    cases l' with
    | nil => rfl
    | cons a l' => simp at this
  | cons a l ih =>
    intro l' h s
    cases l' with
    | nil => have := h.1; simp at this
    | cons b l' =>
      have h2 : Alike l l' := ⟨by have := h.1; simpa using this, fun s => by simpa using h.2 (s + 1)⟩
      have h0 := h.2 0
      simp at h0
      unfold Go.Proofs.Ytmfgkimbehkdeaa.leaves
      by_cases ha : 0 < a
      · rw [if_pos ha, if_pos (by omega), List.length_cons, List.length_cons, ih h2]
      · rw [if_neg ha, if_neg (by omega), ih h2]
theorem of_spec : ∀ (k : Nat) (l : List Nat), 1 ≤ (leaves 0 l).length → l.length ≤ 256 → l.sum ≤ k → ∃ l', Alike l l' ∧ ofL k l = depthsL l' ∧ ∀ x ∈ depthsL l', x ≤ 11 := by
  intro k
  induction k with
  | zero =>
    intro l h1 h2 h3
    refine ⟨l, Alike.refl l, rfl, fun x hx => ?_⟩
    rcases Nat.lt_or_ge 11 x with h | h
    · have := deep_sum h1 hx h
      omega
    · exact h
  | succ k ih =>
    intro l h1 h2 h3
    by_cases hh : (depthsL l).any (fun x => 11 < x) = true
    · have := of_falls h1 h2 hh
      obtain ⟨l', a1, a2, a3⟩ := ih (halve l) (by rw [halve_leaves]; exact h1) (by simpa [halve] using h2) (by omega)
      refine ⟨l', (alike_halve l).trans a1, ?_, a3⟩
      show (if _ then _ else _) = _
      rw [if_pos hh, a2]
    · refine ⟨l, Alike.refl l, ?_, fun x hx => ?_⟩
      · show (if _ then _ else _) = _
        rw [if_neg hh]
      · rcases Nat.lt_or_ge 11 x with h | h
        · exact absurd (List.any_eq_true.2 ⟨x, hx, by simpa using h⟩) hh
        · exact h
theorem of_low {k : Nat} {l : List Nat} (h : ∀ x ∈ depthsL l, x ≤ 11) : ofL k l = depthsL l := by
  cases k with
  | zero => rfl
  | succ k =>
    show (if _ then _ else _) = _
    rw [if_neg]
    intro hh
    obtain ⟨x, hx, h2⟩ := List.any_eq_true.1 hh
    have := h x hx
    have h3 : 11 < x := by simpa using h2
    omega
/-- The room of lengths: a length of 0 takes none. -/
def roomL (L : List Nat) : Nat := (L.map fun d => if 0 < d then 2 ^ (11 - d) else 0).sum
def manyL (L : List Nat) : Nat := L.countP (fun d => decide (0 < d))
theorem idx_room : ∀ (l D : List Nat) (s : Nat), l.length = D.length → (∀ k c d : Nat, l[k]? = some c → D[k]? = some d → (0 < c ↔ 0 < d)) → ((idx s l D).map (fun p => 2 ^ (11 - p.2.2))).sum = roomL D ∧ (idx s l D).length = manyL D := by
  intro l
  induction l with
  | nil =>
    intro D s h _
    cases D with
    | nil => exact ⟨rfl, rfl⟩
    | cons d D => simp at h
  | cons c l ih =>
    intro D s h hp
    cases D with
    | nil => simp at h
    | cons d D =>
      obtain ⟨i1, i2⟩ := ih D (s + 1) (by simpa using h) (fun k c d h1 h2 => hp (k + 1) c d (by simpa using h1) (by simpa using h2))
      have h0 := hp 0 c d (by simp) (by simp)
      unfold idx roomL manyL
      by_cases hc : 0 < c
      · have hd := h0.1 hc
        rw [if_pos hc, List.map_cons, List.sum_cons, i1, List.length_cons, i2, List.map_cons, List.sum_cons, if_pos hd, List.countP_cons_of_pos (by simpa using hd)]
        exact ⟨rfl, rfl⟩
      · have hd : ¬ 0 < d := fun h => hc (h0.2 h)
        rw [if_neg hc, i1, i2, List.map_cons, List.sum_cons, if_neg hd, List.countP_cons_of_neg (by simpa using hd)]
        exact ⟨by rw [Nat.zero_add]; rfl, rfl⟩
/-- Just the symbols that occur have depths. -/
theorem depths_alike {l : List Nat} (h : 2 ≤ (leaves 0 l).length) : (depthsL l).length = l.length ∧ ∀ k c d : Nat, l[k]? = some c → (depthsL l)[k]? = some d → (0 < c ↔ 0 < d) := by
  obtain ⟨t, h1, h2, h3, h4, h5⟩ := depths_tree l (by omega)
  refine ⟨h3, fun k c d hc hd => ?_⟩
  constructor
  · intro h0
    obtain ⟨d', e, h6⟩ := tree_pos h hc h0
    rw [hd] at e
    cases e
    exact h6
  · intro h0
    rcases Nat.eq_zero_or_pos c with e | e
    · subst e
      have := h5 k hc
      rw [hd] at this
      cases this
      omega
    · exact e
theorem idx_leaves : ∀ (l D : List Nat) (s : Nat), l.length = D.length → (idx s l D).length = (leaves s l).length := by
  intro l
  induction l with
  | nil => intro D s h; simp [idx, leaves]
  | cons c l ih =>
    intro D s h
    cases D with
    | nil => simp at h
    | cons d D =>
      unfold idx leaves
      split
      · rw [List.length_cons, List.length_cons, ih D (s + 1) (by simpa using h)]
      · exact ih D (s + 1) (by simpa using h)
/-- Lengths of counts of which two occur are complete. -/
theorem of_whole {k : Nat} {l : List Nat} (h : 2 ≤ (leaves 0 l).length) (hl : l.length ≤ 256) (hk : l.sum ≤ k) :
    (ofL k l).length = l.length ∧ (∀ x ∈ ofL k l, x ≤ 11) ∧ roomL (ofL k l) = 2048 ∧ 2 ≤ manyL (ofL k l) ∧ ∀ s c d : Nat, l[s]? = some c → (ofL k l)[s]? = some d → (0 < c ↔ 0 < d) := by
  obtain ⟨l', a1, a2, a3⟩ := of_spec k l (by omega) hl hk
  have h' : 2 ≤ (leaves 0 l').length := by rw [← a1.leaves 0]; exact h
  obtain ⟨d1, d2⟩ := depths_alike h'
  obtain ⟨r1, r2⟩ := idx_room l' (depthsL l') 0 d1.symm d2
  have hr := tree_room (H := 11) (by omega) a3
  rw [a2]
  refine ⟨d1.trans a1.1.symm, a3, by rw [← r1, hr], by rw [← r2, idx_leaves _ _ _ d1.symm]; exact h', fun s c d hs hd => ?_⟩
  have hls := (List.getElem?_eq_some_iff.1 hd).1
  obtain ⟨c', hc'⟩ : ∃ c', l'[s]? = some c' := ⟨_, List.getElem?_eq_getElem (by omega)⟩
  rw [← d2 s c' d hc' hd]
  have := a1.2 s
  rw [hs, hc'] at this
  simp at this
  omega
end Go.Proofs.Ytmfgkimbehkdeaa
