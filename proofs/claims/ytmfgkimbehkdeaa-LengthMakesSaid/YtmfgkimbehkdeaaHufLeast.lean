/-
  Totals of lengths: those of the tree are the least. No program in sight.
-/
import Derived.Test.YtmfgkimbehkdeaaHufRef
namespace Go.Proofs.Ytmfgkimbehkdeaa
set_option linter.unusedSimpArgs false
set_option linter.unusedVariables false
/-- How many bits counts have with these lengths. -/
def totL : List Nat → List Nat → Nat
  | c :: l, d :: D => c * d + totL l D
  | _, _ => 0
/-- Each symbol that occurs has a length. -/
def Coded (l D : List Nat) : Prop := ∀ s c : Nat, l[s]? = some c → 0 < c → ∃ d, D[s]? = some d ∧ 0 < d
theorem Coded.tail {c d : Nat} {l D : List Nat} (h : Coded (c :: l) (d :: D)) : Coded l D := fun s e h1 h2 => by
  have := h (s + 1) e (by simpa using h1) h2
  simpa using this
theorem Coded.nil {c : Nat} {l : List Nat} (h : Coded (c :: l) []) : c = 0 ∧ Coded l [] := by
  refine ⟨?_, fun s e h1 h2 => ?_⟩
  · rcases Nat.eq_zero_or_pos c with h0 | h0
    · exact h0
    · obtain ⟨d, h1, _⟩ := h 0 c (by simp) h0
      simp at h1
  · obtain ⟨d, h3, _⟩ := h (s + 1) e (by simpa using h1) h2
    simp at h3
theorem idx_tot : ∀ (l D : List Nat) (s : Nat), ((idx s l D).map (fun p => p.2.1 * p.2.2)).sum = totL l D := by
  intro l
  induction l with
  | nil => intro D s; simp [idx, totL]
  | cons c l ih =>
    intro D s
    cases D with
    | nil => simp [idx, totL]
    | cons d D =>
      unfold idx totL
      split
      · rw [List.map_cons, List.sum_cons, ih]
      · rename_i h
        rw [ih, show c = 0 by omega]
        omega
theorem idx_cnts : ∀ (l D : List Nat) (s : Nat), Coded l D → (idx s l D).map (fun p => p.2.1) = l.filter (fun c => decide (0 < c)) := by
  intro l
  induction l with
  | nil => intro D s _; simp [idx]
  | cons c l ih =>
    intro D s h
    cases D with
    | nil =>
      obtain ⟨rfl, h2⟩ := h.nil
      have h3 := ih [] (s + 1) h2
      simp [idx] at h3 ⊢
      exact h3
    | cons d D =>
      unfold idx
      split
      · rename_i hc
        rw [List.map_cons, ih D (s + 1) h.tail, List.filter_cons_of_pos (by simpa using hc)]
      · rename_i hc
        rw [ih D (s + 1) h.tail, List.filter_cons_of_neg (by simpa using hc)]
theorem idx_room_le : ∀ (l D : List Nat) (s : Nat), Coded l D → ((idx s l D).map (fun p => 2 ^ (11 - p.2.2))).sum ≤ roomL D := by
  intro l
  induction l with
  | nil => intro D s _; simp [idx]
  | cons c l ih =>
    intro D s h
    cases D with
    | nil => simp [idx]
    | cons d D =>
      have i1 := ih D (s + 1) h.tail
      have e : roomL (d :: D) = (if 0 < d then 2 ^ (11 - d) else 0) + roomL D := rfl
      rw [e]
      unfold idx
      split
      · rename_i hc
        obtain ⟨d', h1, h2⟩ := h 0 c (by simp) hc
        simp at h1
        subst h1
        rw [List.map_cons, List.sum_cons, if_pos h2]
        exact Nat.add_le_add_left i1 _
      · exact Nat.le_trans i1 (Nat.le_add_left _ _)
/-- No lengths that give all that occurs a code, within the room, have a lesser total than the depths. -/
theorem least_total {l L : List Nat} (h : 2 ≤ (leaves 0 l).length) (h2 : Coded l L) (h3 : ∀ x ∈ L, x ≤ 11) (h4 : roomL L ≤ 2048) : totL l (depthsL l) ≤ totL l L := by
  have hd : Coded l (depthsL l) := fun s c h5 h6 => tree_pos h h5 h6
  have := tree_best 11 (l := l) (by omega) (P := (idx 0 l L).map (fun p => (p.2.1, p.2.2))) ?_ ?_ ?_
  · rw [idx_tot] at this
    have e : cost ((idx 0 l L).map (fun p => (p.2.1, p.2.2))) = totL l L := by
      rw [← idx_tot l L 0]
      unfold cost
      rw [List.map_map]
      rfl
    rwa [e] at this
  · rw [List.map_map]
    have e : ((Prod.fst : Nat × Nat → Nat) ∘ fun p : Nat × Nat × Nat => (p.2.1, p.2.2)) = fun p : Nat × Nat × Nat => p.2.1 := rfl
    rw [e, idx_cnts l L 0 h2, idx_cnts l _ 0 hd]
  · intro p hp
    obtain ⟨⟨s, c, d⟩, h5, rfl⟩ := List.mem_map.1 hp
    exact h3 d (List.mem_of_getElem? ((idx_mem _ _ _ _ _ _).1 h5).2.2.2)
  · have e : room 11 ((idx 0 l L).map (fun p => (p.2.1, p.2.2))) = ((idx 0 l L).map (fun p => 2 ^ (11 - p.2.2))).sum := by
      unfold room
      rw [List.map_map]
      rfl
    rw [e]
    exact Nat.le_trans (idx_room_le l L 0 h2) h4
/-- Lengths of counts of the same symbols give all that occurs a code. -/
theorem coded_of {k : Nat} {l m : List Nat} (ha : Alike l m) (h : 2 ≤ (leaves 0 l).length) (hl : l.length ≤ 256) (hk : m.sum ≤ k) : Coded l (ofL k m) ∧ (∀ x ∈ ofL k m, x ≤ 11) ∧ roomL (ofL k m) = 2048 := by
  have hm : 2 ≤ (leaves 0 m).length := by rw [← ha.leaves 0]; exact h
  obtain ⟨w1, w2, w3, w4, w5⟩ := of_whole hm (by rw [← ha.1]; exact hl) hk
  refine ⟨fun s c h1 h2 => ?_, w2, w3⟩
  have hs := (List.getElem?_eq_some_iff.1 h1).1
  have hlen := ha.1
  obtain ⟨c', hc'⟩ : ∃ c', m[s]? = some c' := ⟨_, List.getElem?_eq_getElem (by omega)⟩
  obtain ⟨d, hd⟩ : ∃ d, (ofL k m)[s]? = some d := ⟨_, List.getElem?_eq_getElem (by omega)⟩
  refine ⟨d, hd, (w5 s c' d hc' hd).1 ?_⟩
  have := ha.2 s
  rw [h1, hc'] at this
  simp at this
  omega
end Go.Proofs.Ytmfgkimbehkdeaa
