/-
  How deep a tree of a Huffman code can be: Fibonacci's numbers bound it. No program in sight.
-/
import Derived.Test.YtmfgkimbehkdeaaHufPlain
namespace Go.Proofs.Ytmfgkimbehkdeaa
set_option linter.unusedSimpArgs false
set_option linter.unusedVariables false
/-- The greater count below a tree's root. -/
def HT.top : HT → Nat | .leaf _ _ => 0 | .join _ _ a b => max a.cnt b.cnt
def HT.height : HT → Nat | .leaf _ _ => 0 | .join _ _ a b => max a.height b.height + 1
/-- A tree as the code makes it. -/
def Fine : HT → Prop
  | .leaf c _ => 0 < c
  | .join c _ a b => c = a.cnt + b.cnt ∧ a.top ≤ b.cnt ∧ b.top ≤ a.cnt ∧ Fine a ∧ Fine b
def fibb : Nat → Nat
  | 0 => 0
  | 1 => 1
  | n + 2 => fibb (n + 1) + fibb n
theorem fibb_mono : ∀ n m, n ≤ m → fibb n ≤ fibb m := by
  have key : ∀ n, fibb n ≤ fibb (n + 1) := by
    intro n
    match n with
    | 0 => decide
    | n + 1 => show fibb (n + 1) ≤ fibb (n + 1) + fibb n; omega
  intro n m h
  induction h with
  | refl => exact Nat.le_refl _
  | step _ ih => exact Nat.le_trans ih (key _)
theorem Fine.pos : ∀ {t : HT}, Fine t → 0 < t.cnt := by
  intro t
  induction t with
  | leaf c s => exact fun h => h
  | join c g a b iha ihb =>
    intro h
    have := iha h.2.2.2.1
    have e := h.1
    show 0 < c
    omega
theorem Fine.bound : ∀ {t : HT}, Fine t → fibb (t.height + 2) ≤ t.cnt ∧ (0 < t.height → fibb (t.height + 1) ≤ t.top) := by
  intro t
  induction t with
  | leaf c s => exact fun h => ⟨h, fun h0 => absurd h0 (by simp [HT.height])⟩
  | join c g a b iha ihb =>
    intro h
    obtain ⟨e, h1, h2, fa, fb⟩ := h
    obtain ⟨a1, a2⟩ := iha fa
    obtain ⟨b1, b2⟩ := ihb fb
    have pa := fa.pos
    have pb := fb.pos
    show fibb (max a.height b.height + 1 + 2) ≤ c ∧ (_ → fibb (max a.height b.height + 1 + 1) ≤ max a.cnt b.cnt)
    rcases Nat.le_total a.height b.height with hab | hab
    · rw [Nat.max_eq_right hab]
      refine ⟨?_, fun _ => by have : fibb (b.height + 1 + 1) ≤ b.cnt := b1; omega⟩
      show fibb (b.height + 2) + fibb (b.height + 1) ≤ c
      by_cases h0 : 0 < b.height
      · have := b2 h0
        omega
      · have e0 : b.height = 0 := by omega
        rw [e0] at b1 ⊢
        have : fibb (0 + 1) = 1 := rfl
        omega
    · rw [Nat.max_eq_left hab]
      refine ⟨?_, fun _ => by have : fibb (a.height + 1 + 1) ≤ a.cnt := a1; omega⟩
      show fibb (a.height + 2) + fibb (a.height + 1) ≤ c
      by_cases h0 : 0 < a.height
      · have := a2 h0
        omega
      · have e0 : a.height = 0 := by omega
        rw [e0] at a1 ⊢
        have : fibb (0 + 1) = 1 := rfl
        omega
/-- A forest as the code makes it. -/
def FineF (l : List HT) : Prop := (∀ t ∈ l, Fine t) ∧ ∀ t ∈ l, ∀ s ∈ l, t.top ≤ s.cnt
def cntSum (l : List HT) : Nat := (l.map HT.cnt).sum
theorem FineF.perm {l l' : List HT} (h : FineF l) (p : l.Perm l') : FineF l' :=
  ⟨fun t ht => h.1 t (p.mem_iff.2 ht), fun t ht s hs => h.2 t (p.mem_iff.2 ht) s (p.mem_iff.2 hs)⟩
theorem cntSum_perm {l l' : List HT} (p : l.Perm l') : cntSum l = cntSum l' := (p.map HT.cnt).sum_nat
theorem nlt_cnt {x y : HT} (h : ¬ klt y x) : x.cnt ≤ y.cnt := by unfold klt at h; omega
theorem fine_step {x y : HT} {r : List HT} {g : Nat} (h : FineF (x :: y :: r)) (h1 : ∀ z ∈ y :: r, ¬ klt z x) (h2 : ∀ z ∈ r, ¬ klt z y) : FineF (.join (x.cnt + y.cnt) g x y :: r) := by
  have hxy := nlt_cnt (h1 y (by simp))
  have hx := h.1 x (by simp)
  have hy := h.1 y (by simp)
  refine ⟨?_, ?_⟩
  · intro t ht
    simp only [List.mem_cons] at ht
    rcases ht with rfl | ht
    · exact ⟨rfl, h.2 x (by simp) y (by simp), h.2 y (by simp) x (by simp), hx, hy⟩
    · exact h.1 t (by simp [ht])
  · intro t ht s hs
    simp only [List.mem_cons] at ht hs
    rcases ht with rfl | ht <;> rcases hs with rfl | hs
    · show max x.cnt y.cnt ≤ x.cnt + y.cnt
      omega
    · have := nlt_cnt (h2 s hs)
      show max x.cnt y.cnt ≤ s.cnt
      omega
    · have := h.2 t (by simp [ht]) x (by simp)
      show t.top ≤ x.cnt + y.cnt
      omega
    · exact h.2 t (by simp [ht]) s (by simp [hs])
theorem one_fine {l : List HT} {g : Nat} (hg : 0 < g) (ht : Told g l) (h : 2 ≤ l.length) (hf : FineF l) : FineF (one g l) ∧ cntSum (one g l) = cntSum l := by
  obtain ⟨x, y, r, h1, h2, h3⟩ := two_least h
  have hp := one_of ht h1 h2 h3
  refine ⟨(fine_step (hf.perm h1.symm) h2 h3).perm hp.symm, ?_⟩
  rw [cntSum_perm hp, ← cntSum_perm h1]
  simp [cntSum, HT.cnt]
  omega
theorem huff_fine : ∀ (k g : Nat) (l : List HT), 0 < g → Told g l → k + 1 ≤ l.length → FineF l → FineF (huff k g l) ∧ cntSum (huff k g l) = cntSum l := by
  intro k
  induction k with
  | zero => intro g l _ _ _ hf; exact ⟨hf, rfl⟩
  | succ k ih =>
    intro g l hg ht hk hf
    obtain ⟨h1, h2⟩ := one_told hg ht (by omega)
    obtain ⟨f1, f2⟩ := one_fine hg ht (by omega) hf
    obtain ⟨g1, g2⟩ := ih (g + 1) _ (by omega) h1 (by omega) f1
    exact ⟨g1, g2.trans f2⟩
theorem leaves_fine (l : List Nat) (s : Nat) : FineF (leaves s l) := by
  refine ⟨fun t ht => ?_, fun t ht u hu => ?_⟩
  · obtain ⟨c, k, rfl, h, _⟩ := leaves_mem l s t ht
    exact h
  · obtain ⟨c, k, rfl, h, _⟩ := leaves_mem l s t ht
    exact Nat.zero_le _
theorem leaves_sum : ∀ (l : List Nat) (s : Nat), cntSum (leaves s l) = l.sum := by
  intro l
  induction l with
  | nil => intro s; rfl
  | cons c l ih =>
    intro s
    unfold leaves
    split
    · simp [cntSum, HT.cnt] at ih ⊢
      rw [ih]
    · rw [ih, List.sum_cons]
      omega
theorem wlk_le : ∀ (t : HT) (d : Nat) (out : List Nat) (x : Nat), x ∈ wlk t d out → x ∈ out ∨ x ≤ d + t.height := by
  intro t
  induction t with
  | leaf c s =>
    intro d out x h
    rcases List.mem_or_eq_of_mem_set h with h | h
    · exact .inl h
    · exact .inr (by rw [h]; exact Nat.le_add_right _ _)
  | join c g a b iha ihb =>
    intro d out x h
    rcases ihb _ _ _ h with h | h
    · rcases iha _ _ _ h with h | h
      · exact .inl h
      · exact .inr (by show x ≤ d + (max a.height b.height + 1); omega)
    · exact .inr (by show x ≤ d + (max a.height b.height + 1); omega)
/-- The one tree of counts of which two occur. -/
theorem huff_one (l : List Nat) (h : 1 ≤ (leaves 0 l).length) : ∃ t, huff ((leaves 0 l).length - 1) 1 (leaves 0 l) = [t] ∧ Fine t ∧ t.cnt = l.sum ∧ depthsL l = wlk t 0 (List.replicate l.length 0) := by
  have h1 := huff_length ((leaves 0 l).length - 1) 1 (leaves 0 l) (by omega) (leaves_told l 0) (by omega)
  obtain ⟨f1, f2⟩ := huff_fine ((leaves 0 l).length - 1) 1 (leaves 0 l) (by omega) (leaves_told l 0) (by omega) (leaves_fine l 0)
  have hd : depthsL l = match huff ((leaves 0 l).length - 1) 1 (leaves 0 l) with | t :: _ => wlk t 0 (List.replicate l.length 0) | [] => [] := rfl
  rw [leaves_sum] at f2
  generalize huff ((leaves 0 l).length - 1) 1 (leaves 0 l) = F at *
  match F, h1 with
  | [t], _ => exact ⟨t, rfl, f1.1 t (by simp), by simpa [cntSum] using f2, hd⟩
  | [], h1 => simp at h1; omega
  | _ :: _ :: _, h1 => simp at h1; omega
/-- A depth above 11 needs counts whose sum is 377 at least. -/
theorem deep_sum {l : List Nat} (h : 1 ≤ (leaves 0 l).length) {x : Nat} (hx : x ∈ depthsL l) (h11 : 11 < x) : 377 ≤ l.sum := by
  obtain ⟨t, _, hf, hc, hd⟩ := huff_one l h
  rw [hd] at hx
  rcases wlk_le t 0 _ x hx with h1 | h1
  · have := List.eq_of_mem_replicate h1
    omega
  · have h2 := hf.bound.1
    have h3 := fibb_mono 14 (t.height + 2) (by omega)
    have h4 : fibb 14 = 377 := by decide
    omega
/-- Counts are halved. -/
def halve (l : List Nat) : List Nat := l.map fun n => n - n / 2
theorem halve_sum : ∀ (l : List Nat), 2 * (halve l).sum ≤ l.sum + l.length := by
  intro l
  induction l with
  | nil => exact Nat.le_refl _
  | cons c l ih =>
    show 2 * ((c - c / 2) + (halve l).sum) ≤ (c + l.sum) + (l.length + 1)
    omega
theorem halve_leaves : ∀ (l : List Nat) (s : Nat), (leaves s (halve l)).length = (leaves s l).length := by
  intro l
  induction l with
  | nil => intro s; rfl
  | cons c l ih =>
    intro s
    show (leaves s ((c - c / 2) :: halve l)).length = _
    unfold leaves
    by_cases h : 0 < c
    · rw [if_pos h, if_pos (by omega), List.length_cons, List.length_cons, ih]
    · rw [if_neg h, if_neg (by omega), ih]
/-- The lengths of counts: k halvings at most. -/
def ofL : Nat → List Nat → List Nat
  | 0, l => depthsL l
  | k + 1, l => if (depthsL l).any (fun x => 11 < x) then ofL k (halve l) else depthsL l
theorem of_falls {l : List Nat} (h : 1 ≤ (leaves 0 l).length) (hl : l.length ≤ 256) (hh : (depthsL l).any (fun x => 11 < x) = true) : (halve l).sum < l.sum := by
  rw [List.any_eq_true] at hh
  obtain ⟨x, hx, h11⟩ := hh
  have := deep_sum h hx (by simpa using h11)
  have := halve_sum l
  omega
theorem of_more : ∀ (k j : Nat) (l : List Nat), 1 ≤ (leaves 0 l).length → l.length ≤ 256 → l.sum ≤ k → l.sum ≤ j → ofL k l = ofL j l := by
  have key : ∀ (k : Nat) (l : List Nat), 1 ≤ (leaves 0 l).length → l.length ≤ 256 → l.sum ≤ k → ofL k l = ofL (k + 1) l := by
    intro k
    induction k with
    | zero =>
      intro l h1 h2 h3
      show depthsL l = if _ then _ else _
      rw [if_neg]
      intro hh
      have := of_falls h1 h2 hh
      omega
    | succ k ih =>
      intro l h1 h2 h3
      show (if _ then ofL k (halve l) else _) = if _ then ofL (k + 1) (halve l) else _
      by_cases hh : (depthsL l).any (fun x => 11 < x) = true
      · rw [if_pos hh, if_pos hh]
        have := of_falls h1 h2 hh
        exact ih _ (by rw [halve_leaves]; exact h1) (by unfold halve; simpa using h2) (by omega)
      · rw [if_neg hh, if_neg hh]
  have up : ∀ (n k : Nat) (l : List Nat), 1 ≤ (leaves 0 l).length → l.length ≤ 256 → l.sum ≤ k → ofL k l = ofL (k + n) l := by
    intro n
    induction n with
    | zero => intro k l _ _ _; rfl
    | succ n ih => intro k l h1 h2 h3; exact (ih k l h1 h2 h3).trans (key (k + n) l h1 h2 (by omega))
  intro k j l h1 h2 h3 h4
  rcases Nat.le_total k j with h | h
  · have := up (j - k) k l h1 h2 h3
    rwa [show k + (j - k) = j by omega] at this
  · have := up (k - j) j l h1 h2 h4
    rw [show j + (k - j) = k by omega] at this
    exact this.symm
end Go.Proofs.Ytmfgkimbehkdeaa
