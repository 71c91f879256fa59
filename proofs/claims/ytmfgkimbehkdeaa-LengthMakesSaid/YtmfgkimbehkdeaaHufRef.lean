/-
  The reference's depths: one more for each symbol below what is joined. No program in sight.
-/
import Derived.Test.YtmfgkimbehkdeaaHufOf
namespace Go.Proofs.Ytmfgkimbehkdeaa
set_option linter.unusedSimpArgs false
set_option linter.unusedVariables false
def HT.isLeaf : HT → Bool | .leaf _ _ => true | .join _ _ _ _ => false
/-- A leaf's symbol, or when a joined tree came to be. -/
def HT.num : HT → Nat | .leaf _ s => s | .join _ g _ _ => g - 1
def HT.syms (t : HT) : List Nat := (lf t).map Prod.fst
/-- Joined trees have an age. -/
def Aged (x : HT) : Prop := x.isLeaf = false → 1 ≤ x.age
/-- The reference's order. -/
def rbef (x y : HT) : Bool := if x.cnt ≠ y.cnt then decide (x.cnt < y.cnt) else if x.isLeaf ≠ y.isLeaf then x.isLeaf else decide (x.num < y.num)
theorem kind_of {x : HT} (hx : Aged x) : (x.isLeaf = true ∧ x.age = 0 ∧ x.num = x.sym) ∨ (x.isLeaf = false ∧ 1 ≤ x.age ∧ x.num = x.age - 1 ∧ x.sym = 0) := by
  cases x with
  | leaf c s => exact .inl ⟨rfl, rfl, rfl⟩
  | join c g a b => exact .inr ⟨rfl, hx rfl, rfl, rfl⟩
theorem rbef_klt {x y : HT} (hx : Aged x) (hy : Aged y) : rbef x y = true ↔ klt x y := by
  unfold rbef klt
  by_cases hc : x.cnt = y.cnt
  · rw [if_neg (fun h => h hc)]
    rcases kind_of hx with ⟨a1, a2, a3⟩ | ⟨a1, a2, a3, a4⟩ <;> rcases kind_of hy with ⟨b1, b2, b3⟩ | ⟨b1, b2, b3, b4⟩
    · rw [if_neg (by rw [a1, b1]; simp), decide_eq_true_eq]
      omega
    · rw [if_pos (by rw [a1, b1]; simp)]
      simp only [a1, true_iff]
      omega
    · rw [if_pos (by rw [a1, b1]; simp)]
      simp only [a1, Bool.false_eq_true, false_iff]
      omega
    · rw [if_neg (by rw [a1, b1]; simp), decide_eq_true_eq]
      omega
  · rw [if_pos hc, decide_eq_true_eq]
    omega
/-- A list that bears the depths of a forest's leaves. -/
def OutIs (n : Nat) (F : List HT) (out : List Nat) : Prop :=
  out.length = n ∧ (∀ s c d : Nat, (s, c, d) ∈ F.flatMap (fun t => tl t 0) → s < n → out[s]? = some d) ∧ ∀ s : Nat, s < n → (∀ c, (s, c) ∉ F.flatMap lf) → out[s]? = some 0
theorem OutIs.perm {n : Nat} {F G : List HT} {out : List Nat} (h : OutIs n F out) (p : F.Perm G) : OutIs n G out :=
  ⟨h.1, fun s c d hm => h.2.1 s c d ((p.flatMap_right _).mem_iff.2 hm), fun s hs hn => h.2.2 s hs (fun c hc => hn c ((p.flatMap_right _).mem_iff.1 hc))⟩
theorem tl_succ : ∀ (t : HT) (d : Nat), tl t (d + 1) = (tl t d).map (fun p => (p.1, p.2.1, p.2.2 + 1)) := by
  intro t
  induction t with
  | leaf c s => intro d; rfl
  | join c g a b iha ihb => intro d; simp only [tl, List.map_append, ← iha, ← ihb]
/-- One more for each of these symbols. -/
def incL : List Nat → List Nat → List Nat
  | [], out => out
  | s :: l, out => incL l (out.set s (out.getD s 0 + 1))
theorem incL_length : ∀ (l out : List Nat), (incL l out).length = out.length := by
  intro l
  induction l with
  | nil => intro out; rfl
  | cons s l ih => intro out; simp [incL, ih]
theorem incL_at : ∀ (l out : List Nat), l.Nodup → ∀ s : Nat, (incL l out)[s]? = if s ∈ l then (out[s]?).map (· + 1) else out[s]? := by
  intro l
  induction l with
  | nil => intro out _ s; simp [incL]
  | cons a l ih =>
    intro out hn s
    rw [List.nodup_cons] at hn
    rw [incL, ih _ hn.2 s]
    by_cases e : s = a
    · subst e
      rw [if_neg hn.1, if_pos (by simp), List.getElem?_set]
      rw [if_pos rfl]
      by_cases hl : s < out.length
      · rw [if_pos hl, List.getElem?_eq_getElem hl]
        simp [List.getD_eq_getElem?_getD, List.getElem?_eq_getElem hl]
      · rw [if_neg hl, List.getElem?_eq_none (by omega)]
        rfl
    · have e2 : (out.set a (out.getD a 0 + 1))[s]? = out[s]? := by rw [List.getElem?_set, if_neg (fun h => e h.symm)]
      rw [e2]
      simp [e]
theorem out_start (l : List Nat) : OutIs l.length (leaves 0 l) (List.replicate l.length 0) := by
  refine ⟨by simp, fun s c d hm hs => ?_, fun s hs _ => by simp [hs]⟩
  obtain ⟨t, ht, h⟩ := List.mem_flatMap.1 hm
  obtain ⟨c', k, rfl, _⟩ := leaves_mem l 0 t ht
  simp [tl] at h
  obtain ⟨rfl, rfl, rfl⟩ := h
  simp [hs]
theorem out_merge {n g : Nat} {x y : HT} {r : List HT} {out : List Nat} (h : OutIs n (x :: y :: r) out) (hn : (((x :: y :: r).flatMap lf).map Prod.fst).Nodup) :
    OutIs n (.join (x.cnt + y.cnt) g x y :: r) (incL (x.syms ++ y.syms) out) := by
  simp only [List.flatMap_cons, List.map_append, List.nodup_append, List.mem_append] at hn
  obtain ⟨nx, ⟨ny, nr, nyr⟩, nxy⟩ := hn
  have hnd : (x.syms ++ y.syms).Nodup := List.nodup_append.2 ⟨nx, ny, fun a ha b hb => nxy a ha b (.inl hb)⟩
  have sy : ∀ (t : HT) (d s c k : Nat), (s, c, k) ∈ tl t d → s ∈ t.syms := by
    intro t d s c k hk
    unfold HT.syms
    rw [← tl_lf t d, List.map_map]
    exact List.mem_map.2 ⟨_, hk, rfl⟩
  refine ⟨by rw [incL_length]; exact h.1, fun s c d hm hs => ?_, fun s hs hnot => ?_⟩
  · rw [incL_at _ _ hnd]
    simp only [List.flatMap_cons, List.mem_append, tl] at hm
    rcases hm with (hm | hm) | hm
    · rw [if_pos (List.mem_append.2 (.inl (sy x 1 s c d hm)))]
      rw [tl_succ] at hm
      obtain ⟨⟨s', c', d'⟩, h1, h2⟩ := List.mem_map.1 hm
      simp only [Prod.mk.injEq] at h2
      obtain ⟨rfl, rfl, rfl⟩ := h2
      rw [h.2.1 s' c' d' (by simp [h1]) hs]
      rfl
    · rw [if_pos (List.mem_append.2 (.inr (sy y 1 s c d hm)))]
      rw [tl_succ] at hm
      obtain ⟨⟨s', c', d'⟩, h1, h2⟩ := List.mem_map.1 hm
      simp only [Prod.mk.injEq] at h2
      obtain ⟨rfl, rfl, rfl⟩ := h2
      rw [h.2.1 s' c' d' (by simp [h1]) hs]
      rfl
    · have hr : s ∈ (r.flatMap lf).map Prod.fst := by
        obtain ⟨t, ht, h3⟩ := List.mem_flatMap.1 hm
        obtain ⟨q, hq, e⟩ := List.mem_map.1 (sy t 0 s c d h3)
        exact List.mem_map.2 ⟨q, List.mem_flatMap.2 ⟨t, ht, hq⟩, e⟩
      rw [if_neg]
      · exact h.2.1 s c d (by simp only [List.flatMap_cons, List.mem_append]; exact .inr (.inr hm)) hs
      · intro hh
        rcases List.mem_append.1 hh with hh | hh
        · exact nxy s hh s (.inr hr) rfl
        · exact nyr s hh s hr rfl
  · rw [incL_at _ _ hnd, if_neg]
    · refine h.2.2 s hs (fun c hc => hnot c ?_)
      simp only [List.flatMap_cons, List.mem_append, lf] at hc ⊢
      rcases hc with hc | hc | hc
      · exact .inl (.inl hc)
      · exact .inl (.inr hc)
      · exact .inr hc
    · intro hh
      rcases List.mem_append.1 hh with hh | hh
      · obtain ⟨⟨s', c⟩, hq, e⟩ := List.mem_map.1 hh
        dsimp only at e
        subst e
        exact hnot c (by simp [lf, hq])
      · obtain ⟨⟨s', c⟩, hq, e⟩ := List.mem_map.1 hh
        dsimp only at e
        subst e
        exact hnot c (by simp [lf, hq])
theorem out_end {l : List Nat} {t : HT} {out : List Nat} (h : 1 ≤ (leaves 0 l).length) (ht : huff ((leaves 0 l).length - 1) 1 (leaves 0 l) = [t]) (ho : OutIs l.length [t] out) : out = depthsL l := by
  obtain ⟨t', h1, h2, h3, h4, h5⟩ := depths_tree l h
  rw [ht] at h2
  cases h2
  have hp := huff_lf ((leaves 0 l).length - 1) 1 (leaves 0 l) (by omega) (leaves_told l 0) (by omega)
  rw [ht, List.flatMap_singleton] at hp
  refine List.ext_getElem? (fun s => ?_)
  by_cases hs : s < l.length
  · obtain ⟨c, hc⟩ : ∃ c, l[s]? = some c := ⟨_, List.getElem?_eq_getElem hs⟩
    by_cases h0 : c = 0
    · subst h0
      rw [h5 s hc]
      refine ho.2.2 s hs (fun c' hc' => ?_)
      rw [List.flatMap_singleton] at hc'
      have := (leaves_lf_mem l 0 s c').1 (hp.mem_iff.1 hc')
      simp [hc] at this
      omega
    · obtain ⟨d, hd⟩ : ∃ d, (depthsL l)[s]? = some d := ⟨_, List.getElem?_eq_getElem (by omega)⟩
      have hm : (s, c, d) ∈ tl t 0 := h4.mem_iff.2 ((idx_mem l _ 0 s c d).2 ⟨by omega, Nat.zero_le _, by simpa using hc, by simpa using hd⟩)
      rw [hd]
      exact ho.2.1 s c d (by rw [List.flatMap_singleton]; exact hm) hs
  · rw [List.getElem?_eq_none (by rw [ho.1]; omega), List.getElem?_eq_none (by omega)]
end Go.Proofs.Ytmfgkimbehkdeaa
