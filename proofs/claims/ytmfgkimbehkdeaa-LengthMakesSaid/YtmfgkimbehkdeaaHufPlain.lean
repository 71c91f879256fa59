/-
  Trees of a Huffman code: the two least are joined till one is left; it does not matter how the rest lies. No program in sight.
-/
import Derived.Test.YtmfgkimbehkdeaaHufHeap
namespace Go.Proofs.Ytmfgkimbehkdeaa
set_option linter.unusedSimpArgs false
set_option linter.unusedVariables false
/-- A tree: a leaf has a count and a symbol, a joined one a count and an age. -/
inductive HT where
  | leaf (c s : Nat)
  | join (c g : Nat) (a b : HT)
def HT.cnt : HT → Nat | .leaf c _ => c | .join c _ _ _ => c
def HT.age : HT → Nat | .leaf _ _ => 0 | .join _ g _ _ => g
def HT.sym : HT → Nat | .leaf _ s => s | .join _ _ _ _ => 0
/-- The order: by count, age, symbol. -/
def klt (x y : HT) : Prop := x.cnt < y.cnt ∨ (x.cnt = y.cnt ∧ (x.age < y.age ∨ (x.age = y.age ∧ x.sym < y.sym)))
instance (x y : HT) : Decidable (klt x y) := by unfold klt; exact inferInstance
theorem klt_ord : HOrd klt := ⟨fun x y h => by unfold klt at h ⊢; omega, fun x y z h1 h2 => by unfold klt at h1 h2 ⊢; omega⟩
theorem klt_tri {x y : HT} (h1 : ¬ klt x y) (h2 : ¬ klt y x) : x.age = y.age ∧ x.sym = y.sym := by unfold klt at h1 h2; omega
/-- The least of x and a list, and the others. -/
def ext (x : HT) : List HT → HT × List HT
  | [] => (x, [])
  | y :: l => if klt y x then ((ext y l).1, x :: (ext y l).2) else ((ext x l).1, y :: (ext x l).2)
theorem ext_perm : ∀ (l : List HT) (x : HT), ((ext x l).1 :: (ext x l).2).Perm (x :: l) := by
  intro l
  induction l with
  | nil => intro x; exact List.Perm.refl _
  | cons y l ih =>
    intro x
    unfold ext
    split
    · exact (List.Perm.swap _ _ _).trans ((ih y).cons x)
    · exact (List.Perm.swap _ _ _).trans (((ih x).cons y).trans (List.Perm.swap _ _ _))
theorem ext_least : ∀ (l : List HT) (x : HT), ∀ z ∈ x :: l, ¬ klt z (ext x l).1 := by
  intro l
  induction l with
  | nil =>
    intro x z hz
    simp at hz
    subst hz
    exact fun h => klt_ord.asym _ _ h h
  | cons y l ih =>
    intro x z hz
    unfold ext
    split
    · rename_i hk
      have h1 := ih y
      simp only [List.mem_cons] at hz
      rcases hz with rfl | rfl | hz
      · exact klt_ord.trans _ _ _ (h1 y (by simp)) (klt_ord.asym _ _ hk)
      · exact h1 _ (by simp)
      · exact h1 _ (by simp [hz])
    · rename_i hk
      have h1 := ih x
      simp only [List.mem_cons] at hz
      rcases hz with rfl | rfl | hz
      · exact h1 _ (by simp)
      · exact klt_ord.trans _ _ _ (h1 x (by simp)) hk
      · exact h1 _ (by simp [hz])
/-- Age and symbol: what tells trees of a forest apart. -/
def HT.tag (x : HT) : Nat × Nat := (x.age, x.sym)
/-- A forest of trees that are told apart, all of them made before g. -/
def Told (g : Nat) (l : List HT) : Prop := (l.map HT.tag).Nodup ∧ ∀ x ∈ l, x.age < g
theorem Told.perm {g : Nat} {l l' : List HT} (h : Told g l) (p : l.Perm l') : Told g l' := ⟨(p.map _).nodup_iff.1 h.1, fun x hx => h.2 x (p.mem_iff.2 hx)⟩
theorem tag_inj : ∀ {l : List HT}, (l.map HT.tag).Nodup → ∀ x ∈ l, ∀ y ∈ l, x.tag = y.tag → x = y := by
  intro l
  induction l with
  | nil => intro _ x hx; cases hx
  | cons z l ih =>
    intro h x hx y hy e
    rw [List.map_cons, List.nodup_cons] at h
    simp only [List.mem_cons] at hx hy
    rcases hx with rfl | hx <;> rcases hy with rfl | hy
    · rfl
    · exact absurd (List.mem_map.2 ⟨y, hy, e.symm⟩) h.1
    · exact absurd (List.mem_map.2 ⟨x, hx, e⟩) h.1
    · exact ih h.2 x hx y hy e
/-- The least one of a forest is one alone. -/
theorem least_one {l : List HT} (h : (l.map HT.tag).Nodup) {x y : HT} (hx : x ∈ l) (hy : y ∈ l) (h1 : ∀ z ∈ l, ¬ klt z x) (h2 : ∀ z ∈ l, ¬ klt z y) : x = y := by
  obtain ⟨e1, e2⟩ := klt_tri (h2 x hx) (h1 y hy)
  exact tag_inj h x hx y hy (by unfold HT.tag; rw [e1, e2])
theorem ext_of {l r : List HT} {x m : HT} (ht : ((x :: l).map HT.tag).Nodup) (hp : (m :: r).Perm (x :: l)) (hm : ∀ z ∈ r, ¬ klt z m) : (ext x l).1 = m ∧ (ext x l).2.Perm r := by
  have hp2 := ext_perm l x
  have e : (ext x l).1 = m := by
    refine least_one ht (hp2.mem_iff.1 (by simp)) (hp.mem_iff.1 (by simp)) (ext_least l x) ?_
    intro z hz
    have := hp.mem_iff.2 hz
    simp only [List.mem_cons] at this
    rcases this with rfl | h
    · exact fun h => klt_ord.asym _ _ h h
    · exact hm z h
  refine ⟨e, ?_⟩
  rw [e] at hp2
  exact (hp2.trans hp.symm).cons_inv
/-- The two least are joined: g is the age of what is made. -/
def one (g : Nat) : List HT → List HT
  | [] => []
  | a :: l => match ext a l with
    | (x, []) => [x]
    | (x, b :: r) => .join (x.cnt + (ext b r).1.cnt) g x (ext b r).1 :: (ext b r).2
/-- This is done k times. -/
def huff : Nat → Nat → List HT → List HT
  | 0, _, l => l
  | k + 1, g, l => huff k (g + 1) (one g l)
/-- What a step gives, however the forest lies. -/
theorem one_of {l r : List HT} {g : Nat} {x y : HT} (ht : Told g l) (hp : (x :: y :: r).Perm l) (hx : ∀ z ∈ y :: r, ¬ klt z x) (hy : ∀ z ∈ r, ¬ klt z y) : (one g l).Perm (.join (x.cnt + y.cnt) g x y :: r) := by
  cases l with
  | nil => exact absurd hp.length_eq (by simp)
  | cons a l =>
    obtain ⟨e1, e2⟩ := ext_of ht.1 hp hx
    have hp2 := ext_perm l a
    unfold one
    rcases hE : ext a l with ⟨m, q⟩
    rw [hE] at e1 e2 hp2
    dsimp only at e1 e2 hp2 ⊢
    subst e1
    cases q with
    | nil => exact absurd e2.length_eq (by simp)
    | cons b q =>
      have ht2 : ((b :: q).map HT.tag).Nodup := by
        have := (ht.perm hp2.symm).1
        rw [List.map_cons, List.nodup_cons] at this
        exact this.2
      obtain ⟨f1, f2⟩ := ext_of ht2 e2.symm hy
      rw [hE]
      dsimp only
      rw [f1]
      exact f2.cons _
theorem told_join {g : Nat} {x y : HT} {r : List HT} {c : Nat} (hg : 0 < g) (h : Told g (x :: y :: r)) : Told (g + 1) (.join c g x y :: r) := by
  obtain ⟨h1, h2⟩ := h
  rw [List.map_cons, List.nodup_cons, List.map_cons, List.nodup_cons] at h1
  refine ⟨?_, ?_⟩
  · rw [List.map_cons, List.nodup_cons]
    refine ⟨fun hm => ?_, h1.2.2⟩
    obtain ⟨z, hz, e⟩ := List.mem_map.1 hm
    have := h2 z (by simp [hz])
    unfold HT.tag at e
    have e1 := (Prod.mk.inj e).1
    rw [e1] at this
    exact absurd this (Nat.lt_irrefl g)
  · intro z hz
    simp only [List.mem_cons] at hz
    rcases hz with rfl | hz
    · exact Nat.lt_succ_self g
    · have := h2 z (by simp [hz])
      omega
/-- A list of two or more has its two least. -/
theorem two_least {l : List HT} (h : 2 ≤ l.length) : ∃ x y r, (x :: y :: r).Perm l ∧ (∀ z ∈ y :: r, ¬ klt z x) ∧ ∀ z ∈ r, ¬ klt z y := by
  match l, h with
  | a :: b :: l, _ =>
    have hp := ext_perm (b :: l) a
    have hm := ext_least (b :: l) a
    generalize ext a (b :: l) = E at hp hm
    obtain ⟨x, q⟩ := E
    dsimp only at hp hm
    cases q with
    | nil => exact absurd hp.length_eq (by simp)
    | cons c q =>
      have hp2 := ext_perm q c
      have hm2 := ext_least q c
      refine ⟨x, (ext c q).1, (ext c q).2, (hp2.cons x).trans hp, fun z hz => hm z (hp.mem_iff.1 ?_), fun z hz => hm2 z (hp2.mem_iff.1 (by simp [hz]))⟩
      exact List.mem_cons_of_mem _ (hp2.mem_iff.1 hz)
theorem one_perm {g : Nat} {l l' : List HT} (ht : Told g l) (hp : l.Perm l') : (one g l).Perm (one g l') := by
  by_cases h : 2 ≤ l.length
  · obtain ⟨x, y, r, h1, h2, h3⟩ := two_least h
    exact (one_of ht h1 h2 h3).trans (one_of (ht.perm hp) (h1.trans hp) h2 h3).symm
  · have hl := hp.length_eq
    match l, l', h, hl, hp with
    | [], [], _, _, _ => exact List.Perm.refl _
    | [a], [b], _, _, hp =>
      have : a = b := by simpa using hp
      subst this
      exact List.Perm.refl _
    | [_], [], _, hl, _ => simp at hl
    | [], [_], _, hl, _ => simp at hl
    | _ :: _ :: _, _, h, _, _ => simp at h
    | [_], _ :: _ :: _, _, hl, _ => simp at hl
    | [], _ :: _ :: _, _, hl, _ => simp at hl
theorem one_told {g : Nat} {l : List HT} (hg : 0 < g) (ht : Told g l) (h : 2 ≤ l.length) : Told (g + 1) (one g l) ∧ (one g l).length + 1 = l.length := by
  obtain ⟨x, y, r, h1, h2, h3⟩ := two_least h
  have hp := one_of ht h1 h2 h3
  refine ⟨(told_join hg (ht.perm h1.symm)).perm hp.symm, ?_⟩
  rw [hp.length_eq, ← h1.length_eq]
  simp
theorem huff_perm : ∀ (k g : Nat) (l l' : List HT), 0 < g → Told g l → k + 1 ≤ l.length → l.Perm l' → (huff k g l).Perm (huff k g l') := by
  intro k
  induction k with
  | zero => intro g l l' _ _ _ hp; exact hp
  | succ k ih =>
    intro g l l' hg ht hk hp
    obtain ⟨h1, h2⟩ := one_told hg ht (by omega)
    exact ih (g + 1) _ _ (by omega) h1 (by omega) (one_perm ht hp)
theorem huff_length : ∀ (k g : Nat) (l : List HT), 0 < g → Told g l → k + 1 ≤ l.length → (huff k g l).length + k = l.length := by
  intro k
  induction k with
  | zero => intro g l _ _ _; rfl
  | succ k ih =>
    intro g l hg ht hk
    obtain ⟨h1, h2⟩ := one_told hg ht (by omega)
    have := ih (g + 1) _ (by omega) h1 (by omega)
    show (huff k (g + 1) (one g l)).length + (k + 1) = _
    omega
/-- The leaves that a list of counts gives, from symbol s on. -/
def leaves : Nat → List Nat → List HT
  | _, [] => []
  | s, c :: l => if 0 < c then .leaf c s :: leaves (s + 1) l else leaves (s + 1) l
theorem leaves_mem : ∀ (l : List Nat) (s : Nat) (x : HT), x ∈ leaves s l → ∃ c k, x = .leaf c k ∧ 0 < c ∧ s ≤ k ∧ k < s + l.length ∧ l[k - s]? = some c := by
  intro l
  induction l with
  | nil => intro s x h; cases h
  | cons c l ih =>
    intro s x h
    have key : x ∈ leaves (s + 1) l → ∃ c' k, x = .leaf c' k ∧ 0 < c' ∧ s ≤ k ∧ k < s + (c :: l).length ∧ (c :: l)[k - s]? = some c' := by
      intro h
      obtain ⟨c', k, h1, h2, h3, h4, h5⟩ := ih (s + 1) x h
      refine ⟨c', k, h1, h2, by omega, by simp; omega, ?_⟩
      rw [show k - s = (k - (s + 1)) + 1 by omega]
      exact h5
    unfold leaves at h
    split at h
    · rename_i hc
      simp only [List.mem_cons] at h
      rcases h with rfl | h
      · exact ⟨c, s, rfl, hc, Nat.le_refl _, by simp, by simp⟩
      · exact key h
    · exact key h
theorem leaves_told : ∀ (l : List Nat) (s : Nat), Told 1 (leaves s l) := by
  intro l s
  refine ⟨?_, ?_⟩
  · induction l generalizing s with
    | nil => exact List.nodup_nil
    | cons c l ih =>
      unfold leaves
      split
      · rw [List.map_cons, List.nodup_cons]
        refine ⟨fun hm => ?_, ih (s + 1)⟩
        obtain ⟨z, hz, e⟩ := List.mem_map.1 hm
        obtain ⟨c', k, rfl, _, h3, _⟩ := leaves_mem l (s + 1) z hz
        have := (Prod.mk.inj e).2
        unfold HT.sym at this
        dsimp only at this
        omega
      · exact ih (s + 1)
  · intro x hx
    obtain ⟨c, k, rfl, _⟩ := leaves_mem l s x hx
    exact Nat.one_pos
/-- The depths of a tree's leaves, written into a list. -/
def wlk : HT → Nat → List Nat → List Nat
  | .leaf _ s, d, out => out.set s d
  | .join _ _ a b, d, out => wlk b (d + 1) (wlk a (d + 1) out)
theorem wlk_length : ∀ (t : HT) (d : Nat) (out : List Nat), (wlk t d out).length = out.length := by
  intro t
  induction t with
  | leaf c s => intro d out; simp [wlk]
  | join c g a b iha ihb => intro d out; simp [wlk, iha, ihb]
/-- The depths that counts have. -/
def depthsL (l : List Nat) : List Nat := match huff ((leaves 0 l).length - 1) 1 (leaves 0 l) with
  | t :: _ => wlk t 0 (List.replicate l.length 0)
  | [] => []
end Go.Proofs.Ytmfgkimbehkdeaa
