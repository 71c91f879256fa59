/-
  A binary heap in a list: what sifting up and down keep, and that the first element is the least. No program in sight.
-/
import Derived.Test.YtmfgkimbehkdeaaGBase
namespace Go.Proofs.Ytmfgkimbehkdeaa
set_option linter.unusedSimpArgs false
set_option linter.unusedVariables false
/-- A strict order of which the not-greater is transitive. -/
structure HOrd {α : Type} (lt : α → α → Prop) : Prop where
  asym : ∀ x y, lt x y → ¬ lt y x
  trans : ∀ x y z, ¬ lt y x → ¬ lt z y → ¬ lt z x
/-- The first n elements are a heap. -/
def HeapN {α : Type} (lt : α → α → Prop) (l : List α) (n : Nat) : Prop := ∀ i x y, 0 < i → i < n → l[i]? = some x → l[(i - 1) / 2]? = some y → ¬ lt x y
/-- A heap but for what is at j. -/
def UpInv {α : Type} (lt : α → α → Prop) (l : List α) (j : Nat) : Prop :=
  (∀ i x y, 0 < i → i ≠ j → l[i]? = some x → l[(i - 1) / 2]? = some y → ¬ lt x y) ∧
  (∀ c x y, 0 < j → 0 < c → (c - 1) / 2 = j → l[c]? = some x → l[(j - 1) / 2]? = some y → ¬ lt x y)
/-- The first n elements are a heap but for what is below i. -/
def DnInv {α : Type} (lt : α → α → Prop) (l : List α) (n i : Nat) : Prop :=
  (∀ c x y, 0 < c → c < n → (c - 1) / 2 ≠ i → l[c]? = some x → l[(c - 1) / 2]? = some y → ¬ lt x y) ∧
  (∀ c x y, 0 < i → 0 < c → c < n → (c - 1) / 2 = i → l[c]? = some x → l[(i - 1) / 2]? = some y → ¬ lt x y)
/-- Two elements change places. -/
def swp {α : Type} (l : List α) (i j : Nat) (x y : α) : List α := (l.set i y).set j x
theorem swp_length {α : Type} (l : List α) (i j : Nat) (x y : α) : (swp l i j x y).length = l.length := by simp [swp]
theorem swp_at {α : Type} {l : List α} {i j : Nat} {x y : α} (hi : l[i]? = some x) (hj : l[j]? = some y) (k : Nat) : (swp l i j x y)[k]? = if k = j then some x else if k = i then some y else l[k]? := by
  have h1 := (List.getElem?_eq_some_iff.1 hi).1
  have h2 := (List.getElem?_eq_some_iff.1 hj).1
  unfold swp
  rw [List.getElem?_set]
  by_cases e1 : j = k
  · rw [if_pos e1, if_pos e1.symm, if_pos (by simp; omega)]
  · rw [if_neg e1, if_neg (fun h => e1 h.symm), List.getElem?_set]
    by_cases e2 : i = k
    · rw [if_pos e2, if_pos e2.symm, if_pos (by omega)]
    · rw [if_neg e2, if_neg (fun h => e2 h.symm)]
theorem swp_perm {α : Type} {l : List α} {i j : Nat} {x y : α} (hi : l[i]? = some x) (hj : l[j]? = some y) : (swp l i j x y).Perm l := by
  obtain ⟨h1, rfl⟩ := List.getElem?_eq_some_iff.1 hi
  obtain ⟨h2, rfl⟩ := List.getElem?_eq_some_iff.1 hj
  exact List.set_set_perm h1 h2
theorem up_new {α : Type} {lt : α → α → Prop} {l : List α} (h : HeapN lt l l.length) (x : α) : UpInv lt (l ++ [x]) l.length := by
  refine ⟨fun i a b h0 hn ha hb => ?_, fun c a b h0 h1 h2 ha hb => ?_⟩
  · have hl := (List.getElem?_eq_some_iff.1 ha).1
    simp at hl
    have hi : i < l.length := by omega
    rw [List.getElem?_append_left hi] at ha
    rw [List.getElem?_append_left (by omega)] at hb
    exact h i a b h0 hi ha hb
  · have hl := (List.getElem?_eq_some_iff.1 ha).1
    simp at hl
    omega
theorem up_done {α : Type} {lt : α → α → Prop} {l : List α} {j : Nat} (h : UpInv lt l j) (hd : j = 0 ∨ ∀ x y, l[j]? = some x → l[(j - 1) / 2]? = some y → ¬ lt x y) (n : Nat) : HeapN lt l n := by
  intro i x y h0 _ hx hy
  by_cases hj : i = j
  · subst hj
    rcases hd with h1 | h1
    · omega
    · exact h1 x y hx hy
  · exact h.1 i x y h0 hj hx hy
theorem up_step {α : Type} {lt : α → α → Prop} (O : HOrd lt) {l : List α} {j : Nat} {x y : α} (h : UpInv lt l j) (hj : 0 < j) (hx : l[j]? = some x) (hy : l[(j - 1) / 2]? = some y) (hl : lt x y) :
    UpInv lt (swp l ((j - 1) / 2) j y x) ((j - 1) / 2) := by
  obtain ⟨p, hp⟩ : ∃ p, (j - 1) / 2 = p := ⟨_, rfl⟩
  rw [hp] at hy ⊢
  have hpj : p < j := by omega
  have at' := swp_at hy hx
  refine ⟨fun i a b h0 hn ha hb => ?_, fun c a b h0 h1 h2 ha hb => ?_⟩
  · rw [at'] at ha hb
    by_cases e1 : i = j
    · subst e1
      rw [if_pos rfl] at ha
      rw [hp, if_neg (by omega), if_pos rfl] at hb
      cases ha; cases hb
      exact O.asym _ _ hl
    · rw [if_neg e1, if_neg hn] at ha
      by_cases e2 : (i - 1) / 2 = j
      · rw [if_pos e2] at hb
        cases hb
        exact h.2 i a _ hj h0 e2 ha (by rw [hp]; exact hy)
      · rw [if_neg e2] at hb
        by_cases e3 : (i - 1) / 2 = p
        · rw [if_pos e3] at hb
          cases hb
          exact O.trans _ _ _ (O.asym _ _ hl) (h.1 i a y h0 e1 ha (by rw [e3]; exact hy))
        · rw [if_neg e3] at hb
          exact h.1 i a b h0 e1 ha hb
  · rw [at'] at ha hb
    rw [if_neg (by omega), if_neg (by omega)] at hb
    have k1 := h.1 p y b h0 (by omega) hy hb
    by_cases e1 : c = j
    · rw [if_pos e1] at ha
      cases ha
      exact k1
    · rw [if_neg e1, if_neg (by omega)] at ha
      exact O.trans _ _ _ k1 (h.1 c a y h1 e1 ha (by rw [h2]; exact hy))
theorem dn_new {α : Type} {lt : α → α → Prop} {l : List α} {m : Nat} {x y : α} (h : HeapN lt l (m + 1)) (hx : l[0]? = some x) (hy : l[m]? = some y) : DnInv lt (swp l 0 m x y) m 0 := by
  have at' := swp_at hx hy
  refine ⟨fun c a b h0 h1 h2 ha hb => ?_, fun c a b h0 => absurd h0 (by omega)⟩
  rw [at', if_neg (by omega), if_neg (by omega)] at ha
  rw [at', if_neg (by omega), if_neg h2] at hb
  exact h c a b h0 (by omega) ha hb
theorem dn_end {α : Type} {lt : α → α → Prop} {l : List α} {n i : Nat} (h : DnInv lt l n i) (hn : n ≤ 2 * i + 1) : HeapN lt l n := by
  intro c x y h0 h1 hx hy
  exact h.1 c x y h0 h1 (by omega) hx hy
/-- j is the child of i that comes first. -/
def Child {α : Type} (lt : α → α → Prop) (l : List α) (n i j : Nat) (x : α) : Prop :=
  (j - 1) / 2 = i ∧ 0 < j ∧ j < n ∧ l[j]? = some x ∧ ∀ c z, 0 < c → c < n → (c - 1) / 2 = i → l[c]? = some z → ¬ lt z x
theorem dn_done {α : Type} {lt : α → α → Prop} (O : HOrd lt) {l : List α} {n i j : Nat} {x y : α} (h : DnInv lt l n i) (hc : Child lt l n i j x) (hy : l[i]? = some y) (hl : ¬ lt x y) : HeapN lt l n := by
  intro c a b h0 h1 ha hb
  by_cases e : (c - 1) / 2 = i
  · rw [e, hy] at hb
    cases hb
    exact O.trans _ _ _ hl (hc.2.2.2.2 c a h0 h1 e ha)
  · exact h.1 c a b h0 h1 e ha hb
theorem dn_step {α : Type} {lt : α → α → Prop} (O : HOrd lt) {l : List α} {n i j : Nat} {x y : α} (h : DnInv lt l n i) (hc : Child lt l n i j x) (hy : l[i]? = some y) (hl : lt x y) : DnInv lt (swp l i j y x) n j := by
  obtain ⟨c1, c2, c3, c4, c5⟩ := hc
  have at' := swp_at hy c4
  refine ⟨fun c a b h0 h1 h2 ha hb => ?_, fun c a b h0 h1 h2 h3 ha hb => ?_⟩
  · rw [at'] at ha hb
    rw [if_neg h2] at hb
    by_cases e1 : c = j
    · subst e1
      rw [if_pos rfl] at ha
      rw [if_pos c1] at hb
      cases ha; cases hb
      exact O.asym _ _ hl
    · rw [if_neg e1] at ha
      by_cases e2 : (c - 1) / 2 = i
      · rw [if_pos e2] at hb
        rw [if_neg (by omega)] at ha
        cases hb
        exact c5 c a h0 h1 e2 ha
      · rw [if_neg e2] at hb
        by_cases e3 : c = i
        · rw [if_pos e3] at ha
          cases ha
          subst e3
          exact h.2 j _ b h0 c2 c3 c1 c4 hb
        · rw [if_neg e3] at ha
          exact h.1 c a b h0 h1 e2 ha hb
  · rw [at', if_neg (by omega), if_neg (by omega)] at ha
    rw [c1, at', if_neg (by omega), if_pos rfl] at hb
    cases hb
    exact h.1 c a _ h1 h2 (by omega) ha (by rw [h3]; exact c4)
theorem heap_least {α : Type} {lt : α → α → Prop} (O : HOrd lt) {l : List α} {n : Nat} {x : α} (h : HeapN lt l n) (hx : l[0]? = some x) (hn : n ≤ l.length) : ∀ k z, k < n → l[k]? = some z → ¬ lt z x := by
  intro k
  induction k using Nat.strongRecOn with
  | _ k ih =>
    intro z hk hz
    by_cases h0 : k = 0
    · subst h0
      rw [hx] at hz
      cases hz
      exact fun hh => O.asym _ _ hh hh
    · obtain ⟨y, hy⟩ : ∃ y, l[(k - 1) / 2]? = some y := ⟨_, List.getElem?_eq_getElem (by omega)⟩
      exact O.trans _ _ _ (ih _ (by omega) y (by omega) hy) (h k z y (by omega) hk hz hy)
end Go.Proofs.Ytmfgkimbehkdeaa
