/-
  What the loops of depths keep: plain facts of forests. No program in sight.
-/
import Derived.Test.YtmfgkimbehkdeaaHufWalk
namespace Go.Proofs.Ytmfgkimbehkdeaa
set_option linter.unusedSimpArgs false
set_option linter.unusedVariables false
theorem leaves_snoc : ∀ (l : List Nat) (s c : Nat), leaves s (l ++ [c]) = leaves s l ++ if 0 < c then [.leaf c (s + l.length)] else [] := by
  intro l
  induction l with
  | nil =>
    intro s c
    simp [leaves]
  | cons a l ih =>
    intro s c
    rw [List.cons_append]
    unfold leaves
    rw [ih]
    have e : s + 1 + l.length = s + (a :: l).length := by simp; omega
    rw [e]
    split <;> simp
theorem leaves_le : ∀ (l : List Nat) (s : Nat), (leaves s l).length ≤ l.length := by
  intro l
  induction l with
  | nil => intro s; simp [leaves]
  | cons a l ih =>
    intro s
    have := ih (s + 1)
    unfold leaves
    split <;> simp <;> omega
theorem huff_succ : ∀ (k g : Nat) (l : List HT), huff (k + 1) g l = one (g + k) (huff k g l) := by
  intro k
  induction k with
  | zero => intro g l; rfl
  | succ k ih =>
    intro g l
    show huff (k + 1) (g + 1) (one g l) = _
    rw [ih, show g + 1 + k = g + (k + 1) by omega]
    rfl
theorem huff_told : ∀ (k g : Nat) (l : List HT), 0 < g → Told g l → k + 1 ≤ l.length → Told (g + k) (huff k g l) := by
  intro k
  induction k with
  | zero => intro g l _ h _; exact h
  | succ k ih =>
    intro g l hg ht hk
    obtain ⟨h1, h2⟩ := one_told hg ht (by omega)
    have := ih (g + 1) _ (by omega) h1 (by omega)
    rw [show g + (k + 1) = g + 1 + k by omega]
    exact this
theorem one_aged {g : Nat} {l : List HT} (hg : 1 ≤ g) (ht : Told g l) (h : 2 ≤ l.length) (ha : ∀ t ∈ l, AgedT t) : ∀ t ∈ one g l, AgedT t := by
  obtain ⟨x, y, r, h1, h2, h3⟩ := two_least h
  have hp := one_of ht h1 h2 h3
  intro t hm
  have := hp.mem_iff.1 hm
  simp only [List.mem_cons] at this
  rcases this with rfl | hr
  · exact ⟨hg, ha _ (h1.mem_iff.1 (by simp)), ha _ (h1.mem_iff.1 (by simp))⟩
  · exact ha _ (h1.mem_iff.1 (by simp [hr]))
theorem huff_aged : ∀ (k g : Nat) (l : List HT), 1 ≤ g → Told g l → k + 1 ≤ l.length → (∀ t ∈ l, AgedT t) → ∀ t ∈ huff k g l, AgedT t := by
  intro k
  induction k with
  | zero => intro g l _ _ _ h; exact h
  | succ k ih =>
    intro g l hg ht hk ha
    obtain ⟨h1, h2⟩ := one_told (by omega) ht (by omega)
    exact ih (g + 1) _ (by omega) h1 (by omega) (one_aged hg ht (by omega) ha)
theorem leaves_aged (l : List Nat) : ∀ t ∈ leaves 0 l, AgedT t := by
  intro t h
  obtain ⟨c, k, rfl, _⟩ := leaves_mem l 0 t h
  trivial
/-- The two that a round takes, joined. -/
theorem pick_two {k : Nat} {L : List HT} {fl l1 l2 : List (Nat × HT)} {x1 x2 : Nat × HT} (hT : Told 1 L) (hk : k + 2 ≤ L.length) (hp : (fl.map Prod.snd).Perm (huff k 1 L))
    (h1 : (x1 :: l1).Perm fl) (h2 : (x2 :: l2).Perm l1) (m1 : ∀ z ∈ l1, ¬ plt z x1) (m2 : ∀ z ∈ l2, ¬ plt z x2) :
    (HT.join (x1.2.cnt + x2.2.cnt) (k + 1) x1.2 x2.2 :: l2.map Prod.snd).Perm (huff (k + 1) 1 L) := by
  have ht := huff_told k 1 L (by omega) hT (by omega)
  rw [huff_succ, Nat.add_comm 1 k]
  rw [Nat.add_comm 1 k] at ht
  refine (one_of ht (x := x1.2) (y := x2.2) (r := l2.map Prod.snd) ?_ ?_ ?_).symm
  · have e : (x1 :: x2 :: l2).Perm fl := (h2.cons x1).trans h1
    exact (e.map Prod.snd).trans hp
  · intro z hz
    have : ∃ p ∈ l1, p.2 = z := by
      simp only [List.mem_cons, List.mem_map] at hz
      rcases hz with rfl | ⟨p, hp, rfl⟩
      · exact ⟨x2, h2.mem_iff.1 (by simp), rfl⟩
      · exact ⟨p, h2.mem_iff.1 (by simp [hp]), rfl⟩
    obtain ⟨p, hp, rfl⟩ := this
    exact m1 p hp
  · intro z hz
    obtain ⟨p, hp, rfl⟩ := List.mem_map.1 hz
    exact m2 p hp
/-- The counts of two trees of a forest together are not above the sum. -/
theorem pair_sum {k : Nat} {ns : List Nat} {fl l1 l2 : List (Nat × HT)} {x1 x2 : Nat × HT} (hk : k + 1 ≤ (leaves 0 ns).length) (hp : (fl.map Prod.snd).Perm (huff k 1 (leaves 0 ns))) (h1 : (x1 :: l1).Perm fl) (h2 : (x2 :: l2).Perm l1) :
    x1.2.cnt + x2.2.cnt ≤ ns.sum := by
  obtain ⟨_, hs⟩ := huff_fine k 1 (leaves 0 ns) (by omega) (leaves_told ns 0) hk (leaves_fine ns 0)
  rw [leaves_sum, ← cntSum_perm hp] at hs
  have e : ((x1 :: x2 :: l2).map Prod.snd).Perm (fl.map Prod.snd) := (((h2.cons x1).trans h1).map Prod.snd)
  rw [← cntSum_perm e] at hs
  simp [cntSum] at hs
  omega
/-- The one tree that is left. -/
theorem last_one {k : Nat} {ns : List Nat} {fl : List (Nat × HT)} (h1 : 1 ≤ (leaves 0 ns).length) (hl : ns.length ≤ 256) (hk : k + 1 ≤ (leaves 0 ns).length) (hp : (fl.map Prod.snd).Perm (huff k 1 (leaves 0 ns))) (hf : ¬ 1 < fl.length) :
    ∃ p, fl = [p] ∧ AgedT p.2 ∧ SymT ns.length p.2 ∧ p.2.height < 256 ∧ depthsL ns = wlk p.2 0 (List.replicate ns.length 0) := by
  have hlen := huff_length k 1 (leaves 0 ns) (by omega) (leaves_told ns 0) hk
  have hpl := hp.length_eq
  simp at hpl
  have e : k = (leaves 0 ns).length - 1 := by omega
  obtain ⟨t, ht, hF, hc, hd⟩ := huff_one ns h1
  have hag := huff_aged k 1 (leaves 0 ns) (by omega) (leaves_told ns 0) hk (leaves_aged ns)
  have hlf := huff_lf k 1 (leaves 0 ns) (by omega) (leaves_told ns 0) hk
  rw [← e] at ht
  rw [ht] at hp hag hlf
  have hle := leaves_le ns 0
  match fl, hpl, hp with
  | [p], _, hp =>
    have ep : p.2 = t := by simpa using hp
    refine ⟨p, rfl, by rw [ep]; exact hag t (by simp), ?_, ?_, by rw [ep]; exact hd⟩
    · rw [ep]
      refine symT_of fun q hq => ?_
      have hm : q ∈ (leaves 0 ns).flatMap lf := hlf.mem_iff.1 (by simpa using hq)
      obtain ⟨s, c⟩ := q
      have := ((leaves_lf_mem ns 0 s c).1 hm).2.2
      have := (List.getElem?_eq_some_iff.1 this).1
      show s < _
      omega
    · have h3 := height_lf t
      have h4 := hlf.length_eq
      have h5 : ((leaves 0 ns).flatMap lf).length = (leaves 0 ns).length := by
        have := congrArg List.length (leaves_cnt ns 0)
        simpa using this
      rw [h5, List.flatMap_singleton] at h4
      rw [ep]
      omega
  | [], hpl, _ => rw [ht] at hpl; simp at hpl
  | _ :: _ :: _, hpl, _ => rw [ht] at hpl; simp at hpl
theorem push_perm {x : Nat × HT} {l l' : List (Nat × HT)} {F : List HT} (h : l'.Perm (x :: l)) (hp : (l.map Prod.snd).Perm F) : (l'.map Prod.snd).Perm (x.2 :: F) :=
  (h.map Prod.snd).trans (hp.cons x.2)
end Go.Proofs.Ytmfgkimbehkdeaa
