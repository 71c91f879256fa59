/-
  What is asked of lengths: their room, the error, the greatest one, totals. No program in sight.
-/
import Derived.Test.YtmfgkimbehkdeaaHufChk
namespace Go.Proofs.Ytmfgkimbehkdeaa
open Go.RowKit
set_option linter.unusedSimpArgs false
set_option linter.unusedVariables false
def okR (xs : List Int) : Bool := xs.all fun x => decide (0 ≤ x) && decide (x ≤ 11)
/-- What Room returns. -/
def rRoom (xs : List Int) : Int × Int := if 256 < xs.length then (0, 6) else if okR xs = true then (((roomL (nn xs) : Nat) : Int), 0) else (0, 2)
theorem rRoom_big {xs : List Int} (h : 256 < xs.length) : rRoom xs = (0, 6) := by unfold rRoom; rw [if_pos h]
theorem rRoom_bad {xs : List Int} (hl : ¬ 256 < xs.length) {k : Nat} {x : Int} (h : k < xs.length) (hx : xs.getD k 0 = x) (hb : ¬ (0 ≤ x ∧ x ≤ 11)) : rRoom xs = (0, 2) := by
  have : okR xs = false := by
    rw [← Bool.not_eq_true]
    intro hr
    unfold okR at hr
    rw [List.all_eq_true] at hr
    simp [h] at hx
    have := hr xs[k] (List.getElem_mem h)
    rw [hx] at this
    simp at this
    omega
  unfold rRoom
  rw [if_neg hl, this]
  rfl
theorem rRoom_ok {xs : List Int} (hl : ¬ 256 < xs.length) (h : okR xs = true) : rRoom xs = (((roomL (nn xs) : Nat) : Int), 0) := by
  unfold rRoom
  rw [if_neg hl, if_pos h]
theorem okR_snoc {xs : List Int} {k : Nat} {x : Int} (h : k < xs.length) (hx : xs.getD k 0 = x) (h0 : okR (xs.take k) = true) (hb : 0 ≤ x ∧ x ≤ 11) : okR (xs.take (k + 1)) = true := by
  simp [h] at hx
  rw [List.take_succ_eq_append_getElem h, hx]
  unfold okR at h0 ⊢
  rw [List.all_append, h0]
  simp
  exact hb
theorem roomL_snoc (l : List Nat) (d : Nat) : roomL (l ++ [d]) = roomL l + if 0 < d then 2 ^ (11 - d) else 0 := by
  unfold roomL
  rw [List.map_append, List.sum_append]
  simp
theorem nn_take_succ {xs : List Int} {k : Nat} {x : Int} (h : k < xs.length) (hx : xs.getD k 0 = x) : nn (xs.take (k + 1)) = nn (xs.take k) ++ [x.toNat] := by
  simp [h] at hx
  rw [List.take_succ_eq_append_getElem h, hx]
  simp [nn]
theorem roomL_le : ∀ (l : List Nat), roomL l ≤ 1024 * l.length := by
  intro l
  induction l with
  | nil => simp [roomL]
  | cons d l ih =>
    have e : roomL (d :: l) = (if 0 < d then 2 ^ (11 - d) else 0) + roomL l := rfl
    rw [e, List.length_cons]
    have : (if 0 < d then 2 ^ (11 - d) else 0) ≤ 1024 := by
      split
      · have := Nat.pow_le_pow_right (n := 2) (by omega) (show 11 - d ≤ 10 by omega)
        exact this
      · omega
    omega
theorem roomL_pre (xs : List Int) (k : Nat) (hk : k ≤ xs.length) : roomL (nn (xs.take k)) ≤ 1024 * k := by
  have := roomL_le (nn (xs.take k))
  rw [nn_length, List.length_take, Nat.min_eq_left hk] at this
  exact this
/-- How many are positive; how many are not zero. -/
def posN (xs : List Int) : Nat := xs.countP fun x => decide (0 < x)
def nonN (xs : List Int) : Nat := xs.countP fun x => decide (x ≠ 0)
def mst (xs : List Int) : Int := xs.foldl max 0
theorem posN_snoc (l : List Int) (x : Int) : posN (l ++ [x]) = posN l + if 0 < x then 1 else 0 := by
  unfold posN
  rw [List.countP_append]
  by_cases h : 0 < x <;> simp [h]
theorem nonN_snoc (l : List Int) (x : Int) : nonN (l ++ [x]) = nonN l + if x ≠ 0 then 1 else 0 := by
  unfold nonN
  rw [List.countP_append]
  by_cases h : x = 0 <;> simp [h]
theorem mst_snoc (l : List Int) (x : Int) : mst (l ++ [x]) = max (mst l) x := by simp [mst]
theorem foldl_max_ge : ∀ (l : List Int) (a : Int), a ≤ l.foldl max a := by
  intro l
  induction l with
  | nil => intro a; exact Int.le_refl _
  | cons x l ih => intro a; exact Int.le_trans (Int.le_max_left a x) (ih _)
theorem mst_nn (l : List Int) : 0 ≤ mst l := foldl_max_ge l 0
theorem take_snoc_d {xs : List Int} {k : Nat} {x : Int} (h : k < xs.length) (hx : xs.getD k 0 = x) : xs.take (k + 1) = xs.take k ++ [x] := by
  simp [h] at hx
  rw [List.take_succ_eq_append_getElem h, hx]
theorem posN_le (xs : List Int) (k : Nat) : posN (xs.take k) ≤ k := by
  unfold posN
  exact Nat.le_trans List.countP_le_length (List.length_take_le _ _)
theorem nonN_le (xs : List Int) (k : Nat) : nonN (xs.take k) ≤ k := by
  unfold nonN
  exact Nat.le_trans List.countP_le_length (List.length_take_le _ _)
/-- Where no number is negative, the two are the same. -/
theorem nonN_pos {xs : List Int} (h : okR xs = true) : nonN xs = posN xs := by
  unfold nonN posN
  refine List.countP_congr fun x hx => ?_
  unfold okR at h
  rw [List.all_eq_true] at h
  have := h x hx
  simp at this ⊢
  omega
def rChk2 (xs : List Int) : Int := if (rRoom xs).2 ≠ 0 then (rRoom xs).2 else if posN xs < 2 then 7 else if (rRoom xs).1 ≠ 2048 then 21 else 0
def rMost2 (xs : List Int) : Int × Int := if rChk2 xs ≠ 0 then (0, rChk2 xs) else (mst xs, 0)
theorem rRoom_zero {xs : List Int} (h : (rRoom xs).2 = 0) : xs.length ≤ 256 ∧ okR xs = true ∧ rRoom xs = (((roomL (nn xs) : Nat) : Int), 0) := by
  unfold rRoom at h ⊢
  by_cases h1 : 256 < xs.length
  · rw [if_pos h1] at h; simp at h
  · by_cases h2 : okR xs = true
    · refine ⟨by omega, h2, by rw [if_neg h1, if_pos h2]⟩
    · rw [if_neg h1, if_neg h2] at h; simp at h
/-- Has each symbol that occurs a length? -/
def covB : List Nat → List Nat → Bool
  | [], _ => true
  | c :: l, [] => decide (c = 0) && covB l []
  | c :: l, d :: D => (decide (c = 0) || decide (0 < d)) && covB l D
def okC (cs xs : List Int) : Bool := covB (nn cs) (nn xs)
def rTotal (cs xs : List Int) : Int × Int :=
  if rChk2 xs ≠ 0 then (0, rChk2 xs) else if cchk cs ≠ 0 then (0, cchk cs) else if okC cs xs = true then (if 1099511627776 < totL (nn cs) (nn xs) then (0, 2) else (((totL (nn cs) (nn xs) : Nat) : Int), 0)) else (0, 7)
theorem covB_iff : ∀ (l D : List Nat), covB l D = true ↔ Coded l D := by
  intro l
  induction l with
  | nil => intro D; exact ⟨fun _ s c h => by simp at h, fun _ => rfl⟩
  | cons c l ih =>
    intro D
    cases D with
    | nil =>
      unfold covB
      rw [Bool.and_eq_true, ih, decide_eq_true_eq]
      constructor
      · rintro ⟨rfl, h⟩ s e h1 h2
        cases s with
        | zero => simp at h1; omega
        | succ s => obtain ⟨d, h3, _⟩ := h s e (by simpa using h1) h2; simp at h3
      · exact fun h => h.nil
    | cons d D =>
      unfold covB
      rw [Bool.and_eq_true, ih, Bool.or_eq_true, decide_eq_true_eq, decide_eq_true_eq]
      constructor
      · rintro ⟨h0, h⟩ s e h1 h2
        cases s with
        | zero =>
          simp at h1
          subst h1
          exact ⟨d, by simp, by omega⟩
        | succ s => simpa using h s e (by simpa using h1) h2
      · intro h
        refine ⟨?_, h.tail⟩
        by_cases hc : c = 0
        · exact .inl hc
        · obtain ⟨d', h1, h2⟩ := h 0 c (by simp) (by omega)
          simp at h1
          subst h1
          exact .inr h2
theorem covB_bad {l D : List Nat} {s c : Nat} (h1 : l[s]? = some c) (h2 : 0 < c) (h3 : ∀ d, D[s]? = some d → d = 0) : covB l D = false := by
  rw [← Bool.not_eq_true, covB_iff]
  intro h
  obtain ⟨d, h4, h5⟩ := h s c h1 h2
  have := h3 d h4
  omega
theorem covB_of {l D : List Nat} (h : ∀ s c : Nat, l[s]? = some c → 0 < c → ∃ d, D[s]? = some d ∧ 0 < d) : covB l D = true := (covB_iff l D).2 h
theorem totL_take : ∀ (l D : List Nat) (k c : Nat), l[k]? = some c → totL (l.take (k + 1)) D = totL (l.take k) D + c * (D[k]?).getD 0 := by
  intro l
  induction l with
  | nil => intro D k c h; simp at h
  | cons a l ih =>
    intro D k c h
    cases D with
    | nil => cases k <;> simp [totL]
    | cons d D =>
      cases k with
      | zero =>
        simp at h
        subst h
        cases l <;> simp [totL]
      | succ k =>
        have := ih D k c (by simpa using h)
        rw [List.take_succ_cons, List.take_succ_cons]
        unfold totL
        rw [this]
        simp
        omega
theorem totL_le : ∀ (l D : List Nat) (b : Nat), (∀ d ∈ D, d ≤ b) → totL l D ≤ b * l.sum := by
  intro l
  induction l with
  | nil => intro D b _; simp [totL]
  | cons c l ih =>
    intro D b h
    cases D with
    | nil => simp [totL]
    | cons d D =>
      have h1 := ih D b (fun x hx => h x (by simp [hx]))
      have h2 := h d (by simp)
      unfold totL
      rw [List.sum_cons, Nat.mul_add]
      have h3 : c * d ≤ b * c := by rw [Nat.mul_comm]; exact Nat.mul_le_mul_right c h2
      omega
theorem sum_take_le (l : List Nat) (k : Nat) : (l.take k).sum ≤ l.sum := by
  conv => rhs; rw [← List.take_append_drop k l, List.sum_append]
  omega
theorem totL_mono (l D : List Nat) (k : Nat) : totL (l.take k) D ≤ totL l D := by
  induction l generalizing D k with
  | nil => simp
  | cons c l ih =>
    cases k with
    | zero => simp [totL]
    | succ k =>
      cases D with
      | nil => simp [totL]
      | cons d D =>
        rw [List.take_succ_cons]
        unfold totL
        have := ih D k
        omega
end Go.Proofs.Ytmfgkimbehkdeaa
