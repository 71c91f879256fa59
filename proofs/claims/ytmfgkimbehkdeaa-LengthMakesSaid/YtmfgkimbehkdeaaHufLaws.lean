/-
  Laws of the depths of counts: complete, best, ordered as the counts, the same for doubled counts; and of lengths. No program in sight.
-/
import Derived.Test.YtmfgkimbehkdeaaHufTree
namespace Go.Proofs.Ytmfgkimbehkdeaa
set_option linter.unusedSimpArgs false
set_option linter.unusedVariables false
theorem mem_le_sum : ∀ {l : List Nat} {x : Nat}, x ∈ l → x ≤ l.sum := by
  intro l
  induction l with
  | nil => intro x h; cases h
  | cons a l ih =>
    intro x h
    rw [List.sum_cons]
    simp only [List.mem_cons] at h
    rcases h with rfl | h
    · omega
    · have := ih h
      omega
theorem leaves_cnt : ∀ (l : List Nat) (s : Nat), ((leaves s l).flatMap lf).map Prod.snd = (leaves s l).map HT.cnt := by
  intro l
  induction l with
  | nil => intro s; rfl
  | cons a l ih =>
    intro s
    unfold leaves
    split
    · rw [List.flatMap_cons, List.map_append, ih, List.map_cons]
      rfl
    · exact ih (s + 1)
theorem leaves_inner : ∀ (l : List Nat) (s : Nat), innerSum (leaves s l) = 0 := by
  intro l
  induction l with
  | nil => intro s; rfl
  | cons a l ih =>
    intro s
    unfold leaves
    split
    · have := ih (s + 1)
      simp [innerSum, HT.inner] at this ⊢
      exact this
    · exact ih (s + 1)
/-- No lengths within Kraft's bound have a lesser total. -/
theorem tree_best (M : Nat) {l : List Nat} (h : 1 ≤ (leaves 0 l).length) {P : List (Nat × Nat)} (hP : (P.map Prod.fst).Perm ((idx 0 l (depthsL l)).map (fun p => p.2.1))) (hM : ∀ p ∈ P, p.2 ≤ M) (hr : room M P ≤ 2 ^ M) :
    ((idx 0 l (depthsL l)).map (fun p => p.2.1 * p.2.2)).sum ≤ cost P := by
  obtain ⟨t, h1, h2, h3, h4, h5⟩ := depths_tree l h
  have e1 : ((idx 0 l (depthsL l)).map (fun p => p.2.1 * p.2.2)).sum = t.inner := by
    rw [← (h4.map _).sum_nat, tl_cost t 0 h1]
    omega
  have hp := huff_lf ((leaves 0 l).length - 1) 1 (leaves 0 l) (by omega) (leaves_told l 0) (by omega)
  rw [h2, List.flatMap_singleton] at hp
  have hc : (P.map Prod.fst).Perm ((leaves 0 l).map HT.cnt) := by
    refine hP.trans ?_
    refine (h4.map (fun p => p.2.1)).symm.trans ?_
    rw [← leaves_cnt]
    refine List.Perm.trans ?_ (hp.map Prod.snd)
    rw [← tl_lf t 0, List.map_map]
    exact List.Perm.refl _
  have := huff_best M ((leaves 0 l).length - 1) 1 (leaves 0 l) P (by omega) (leaves_told l 0) (by omega) hc hM hr
  rw [h2, leaves_inner] at this
  rw [e1]
  simpa [innerSum] using this
/-- The room of the depths. -/
theorem tree_room {l : List Nat} (h : 1 ≤ (leaves 0 l).length) {H : Nat} (hH : ∀ x ∈ depthsL l, x ≤ H) : ((idx 0 l (depthsL l)).map (fun p => 2 ^ (H - p.2.2))).sum = 2 ^ H := by
  obtain ⟨t, h1, h2, h3, h4, h5⟩ := depths_tree l h
  rw [← (h4.map _).sum_nat, tl_room H t 0]
  · rfl
  · obtain ⟨⟨k, c, d⟩, hp, e⟩ := tl_deep t 0
    dsimp only at e
    have := (idx_mem l (depthsL l) 0 k c d).1 (h4.mem_iff.1 hp)
    rw [← e]
    exact hH d (List.mem_of_getElem? this.2.2.2)
/-- With two symbols that occur each of them has a depth. -/
theorem tree_pos {l : List Nat} (h : 2 ≤ (leaves 0 l).length) {s c : Nat} (hs : l[s]? = some c) (hc : 0 < c) : ∃ d, (depthsL l)[s]? = some d ∧ 0 < d := by
  obtain ⟨t, h1, h2, h3, h4, h5⟩ := depths_tree l (by omega)
  have hl := (List.getElem?_eq_some_iff.1 hs).1
  obtain ⟨d, hd⟩ : ∃ d, (depthsL l)[s]? = some d := ⟨_, List.getElem?_eq_getElem (by omega)⟩
  refine ⟨d, hd, ?_⟩
  have hm : (s, c, d) ∈ tl t 0 := h4.mem_iff.2 ((idx_mem l _ 0 s c d).2 ⟨hc, Nat.zero_le _, by simpa using hs, by simpa using hd⟩)
  cases t with
  | leaf c' s' =>
    exfalso
    have hp := huff_lf ((leaves 0 l).length - 1) 1 (leaves 0 l) (by omega) (leaves_told l 0) (by omega)
    rw [h2] at hp
    have := hp.length_eq
    have e : ((leaves 0 l).flatMap lf).length = (leaves 0 l).length := by
      have := congrArg List.length (leaves_cnt l 0)
      simpa using this
    rw [e] at this
    simp [lf] at this
    omega
  | join c' g a b =>
    simp only [tl, List.mem_append] at hm
    rcases hm with hm | hm
    · have := tl_ge a 1 _ hm
      exact this
    · have := tl_ge b 1 _ hm
      exact this
/-- A symbol that occurs more often has no greater depth. -/
theorem tree_mono {l : List Nat} (h : 1 ≤ (leaves 0 l).length) {i k ci ck di dk : Nat} (hi : l[i]? = some ci) (hk : l[k]? = some ck) (hdi : (depthsL l)[i]? = some di) (hdk : (depthsL l)[k]? = some dk) (h0 : 0 < ck) (hc : ck < ci) : di ≤ dk := by
  rcases Nat.lt_or_ge dk di with hlt | hge
  · exfalso
    have hik : i ≠ k := by
      rintro rfl
      rw [hi] at hk
      cases hk
      omega
    have mi : (i, ci, di) ∈ idx 0 l (depthsL l) := (idx_mem _ _ _ _ _ _).2 ⟨by omega, Nat.zero_le _, by simpa using hi, by simpa using hdi⟩
    have mk : (k, ck, dk) ∈ idx 0 l (depthsL l) := (idx_mem _ _ _ _ _ _).2 ⟨by omega, Nat.zero_le _, by simpa using hk, by simpa using hdk⟩
    obtain ⟨S, T, e⟩ := List.append_of_mem mi
    have pm : (idx 0 l (depthsL l)).Perm ((i, ci, di) :: (S ++ T)) := by rw [e]; exact List.perm_middle
    have mk2 : (k, ck, dk) ∈ S ++ T := by
      have := pm.mem_iff.1 mk
      simp only [List.mem_cons, Prod.mk.injEq] at this
      rcases this with ⟨e, _⟩ | h
      · exact absurd e.symm hik
      · exact h
    obtain ⟨S2, T2, e2⟩ := List.append_of_mem mk2
    have pm2 : (idx 0 l (depthsL l)).Perm ((i, ci, di) :: (k, ck, dk) :: (S2 ++ T2)) := pm.trans (by rw [e2]; exact List.perm_middle.cons _)
    obtain ⟨H, hH⟩ : ∃ H, ∀ x ∈ depthsL l, x ≤ H := by
      refine ⟨(depthsL l).sum, fun x hx => ?_⟩
      exact mem_le_sum hx
    have hroom := tree_room h hH
    rw [(pm2.map _).sum_nat] at hroom
    have hb := tree_best H h (P := (ci, dk) :: (ck, di) :: (S2 ++ T2).map (fun p => (p.2.1, p.2.2))) ?_ ?_ ?_
    · rw [(pm2.map _).sum_nat] at hb
      simp only [List.map_cons, List.sum_cons, cost, List.map_map] at hb
      have e : (List.map ((fun p : Nat × Nat => p.1 * p.2) ∘ fun p : Nat × Nat × Nat => (p.2.1, p.2.2)) (S2 ++ T2)) = List.map (fun p : Nat × Nat × Nat => p.2.1 * p.2.2) (S2 ++ T2) := rfl
      rw [e] at hb
      generalize (List.map (fun p : Nat × Nat × Nat => p.2.1 * p.2.2) (S2 ++ T2)).sum = X at hb
      obtain ⟨u, rfl⟩ := Nat.le.dest (show ck + 1 ≤ ci from hc)
      obtain ⟨v, rfl⟩ := Nat.le.dest (show dk + 1 ≤ di from hlt)
      simp only [Nat.mul_add, Nat.add_mul, Nat.one_mul, Nat.mul_one] at hb
      omega
    · refine List.Perm.trans ?_ (pm2.map (fun p => p.2.1)).symm
      simp only [List.map_cons, List.map_map]
      exact List.Perm.refl _
    · intro p hp
      have hall : ∀ q ∈ idx 0 l (depthsL l), q.2.2 ≤ H := by
        rintro ⟨a, b, d⟩ hq
        exact hH d (List.mem_of_getElem? ((idx_mem _ _ _ _ _ _).1 hq).2.2.2)
      simp only [List.mem_cons, List.mem_map] at hp
      rcases hp with rfl | rfl | ⟨q, hq, rfl⟩
      · exact hall (k, ck, dk) mk
      · exact hall (i, ci, di) mi
      · exact hall q (pm2.mem_iff.2 (by simp only [List.mem_cons]; exact .inr (.inr hq)))
    · simp only [List.map_cons, List.sum_cons] at hroom
      rw [room_cons, room_cons]
      have e : room H ((S2 ++ T2).map (fun p => (p.2.1, p.2.2))) = ((S2 ++ T2).map (fun p => 2 ^ (H - p.2.2))).sum := by
        unfold room
        rw [List.map_map]
        rfl
      rw [e]
      omega
  · exact hge
/-! Doubled counts. -/
def dbl : HT → HT
  | .leaf c s => .leaf (2 * c) s
  | .join c g a b => .join (2 * c) g (dbl a) (dbl b)
theorem dbl_klt (x y : HT) : klt (dbl x) (dbl y) ↔ klt x y := by
  cases x <;> cases y <;> unfold klt dbl HT.cnt HT.age HT.sym <;> dsimp only <;> constructor <;> intro h <;> omega
theorem dbl_cnt (x : HT) : (dbl x).cnt = 2 * x.cnt := by cases x <;> rfl
theorem ext_dbl : ∀ (l : List HT) (x : HT), ext (dbl x) (l.map dbl) = (dbl (ext x l).1, (ext x l).2.map dbl) := by
  intro l
  induction l with
  | nil => intro x; rfl
  | cons y l ih =>
    intro x
    rw [List.map_cons]
    unfold ext
    by_cases h : klt y x
    · rw [if_pos h, if_pos ((dbl_klt y x).2 h), ih]
      rfl
    · rw [if_neg h, if_neg (fun hh => h ((dbl_klt y x).1 hh)), ih]
      rfl
theorem one_dbl (g : Nat) (l : List HT) : one g (l.map dbl) = (one g l).map dbl := by
  cases l with
  | nil => rfl
  | cons a l =>
    rw [List.map_cons]
    simp only [one, ext_dbl]
    rcases hE : ext a l with ⟨m, q⟩
    cases q with
    | nil => rfl
    | cons b q =>
      have e : (dbl m).cnt + (dbl (ext b q).1).cnt = 2 * (m.cnt + (ext b q).1.cnt) := by rw [dbl_cnt, dbl_cnt]; omega
      simp only [List.map_cons, ext_dbl, e]
      rfl
theorem huff_dbl : ∀ (k g : Nat) (l : List HT), huff k g (l.map dbl) = (huff k g l).map dbl := by
  intro k
  induction k with
  | zero => intro g l; rfl
  | succ k ih =>
    intro g l
    show huff k (g + 1) (one g (l.map dbl)) = _
    rw [one_dbl, ih]
    rfl
theorem leaves_dbl : ∀ (l : List Nat) (s : Nat), leaves s (l.map (2 * ·)) = (leaves s l).map dbl := by
  intro l
  induction l with
  | nil => intro s; rfl
  | cons c l ih =>
    intro s
    rw [List.map_cons]
    unfold leaves
    by_cases h : 0 < c
    · rw [if_pos h, if_pos (by omega), ih]
      rfl
    · rw [if_neg h, if_neg (by omega), ih]
theorem wlk_dbl : ∀ (t : HT) (d : Nat) (out : List Nat), wlk (dbl t) d out = wlk t d out := by
  intro t
  induction t with
  | leaf c s => intro d out; rfl
  | join c g a b iha ihb => intro d out; simp only [dbl, wlk, iha, ihb]
/-- Doubled counts have the same depths. -/
theorem depths_dbl (l : List Nat) : depthsL (l.map (2 * ·)) = depthsL l := by
  unfold depthsL
  rw [leaves_dbl, List.length_map, huff_dbl, List.length_map]
  cases huff ((leaves 0 l).length - 1) 1 (leaves 0 l) with
  | nil => rfl
  | cons t r => exact wlk_dbl t 0 _
end Go.Proofs.Ytmfgkimbehkdeaa
