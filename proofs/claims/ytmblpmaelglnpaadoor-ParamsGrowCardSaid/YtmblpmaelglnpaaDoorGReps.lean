/-
  Histories of offsets, walked.
-/
import Derived.Test.YtmblpmaelglnpaaDoorRows
import Derived.Test.YtmblpmaelglnpaaDoorGBase
import Derived.Deep.Light
namespace Go.Proofs.YtmblpmaelglnpaaDoor
/-- The check of a history, offset by offset: is one behind an unknown one known? -/
def chkL : Bool → List Int → Int
  | _, [] => 0
  | kn, n :: r => if n < 0 ∨ 2147483648 < n ∨ (0 < n ∧ kn = false) then 10 else chkL (decide (0 < n)) r
theorem chkL_bad (kn : Bool) (n : Int) (r : List Int) (h : n < 0 ∨ 2147483648 < n ∨ (0 < n ∧ kn = false)) : chkL kn (n :: r) = 10 := by simp only [chkL]; rw [if_pos h]
theorem chkL_good (kn : Bool) (n : Int) (r : List Int) (h : ¬ (n < 0 ∨ 2147483648 < n ∨ (0 < n ∧ kn = false))) : chkL kn (n :: r) = chkL (decide (0 < n)) r := by simp only [chkL]; rw [if_neg h]
theorem chk_ok {a b c : Int} (h : chkL true [a, b, c] = 0) : 0 ≤ a ∧ a ≤ 2147483648 ∧ 0 ≤ b ∧ b ≤ 2147483648 ∧ 0 ≤ c ∧ c ≤ 2147483648 ∧ (0 < b → 0 < a) ∧ (0 < c → 0 < b) := by
  simp only [chkL] at h
  split at h
  · omega
  · split at h
    · omega
    · split at h
      · omega
      · rename_i h1 h2 h3
        simp at h1 h2 h3
        omega
theorem chk_of {a b c : Int} (h : 0 ≤ a ∧ a ≤ 2147483648 ∧ 0 ≤ b ∧ b ≤ 2147483648 ∧ 0 ≤ c ∧ c ≤ 2147483648 ∧ (0 < b → 0 < a) ∧ (0 < c → 0 < b)) : chkL true [a, b, c] = 0 := by
  rw [chkL_good _ _ _ (by simp; omega), chkL_good _ _ _ (by simp; omega), chkL_good _ _ _ (by simp; omega)]
  rfl
theorem chk_two (a b c : Int) : chkL true [a, b, c] = 0 ∨ chkL true [a, b, c] = 10 := by
  simp only [chkL]
  split
  · exact .inr rfl
  · split
    · exact .inr rfl
    · split
      · exact .inr rfl
      · exact .inl rfl
theorem chk_ten {a b c : Int} (h : ¬ (0 ≤ a ∧ a ≤ 2147483648 ∧ 0 ≤ b ∧ b ≤ 2147483648 ∧ 0 ≤ c ∧ c ≤ 2147483648 ∧ (0 < b → 0 < a) ∧ (0 < c → 0 < b))) : chkL true [a, b, c] = 10 := by
  rcases chk_two a b c with h1 | h1
  · exact absurd (chk_ok h1) h
  · exact h1
def rAt (v l : Int) : Int := v - 1 + (if l = 0 then 1 else 0)
/-- What a value means: the distance, the next history, the error. -/
def Rmean (a b c v l : Int) : Int × (Int × Int × Int) × Int :=
  if 3 < v then (v - 3, (v - 3, a, b), 0)
  else if rAt v l = 3 then (if a = 0 then (0, (a, b, c), 7) else if a = 1 then (0, (a, b, c), 25) else (a - 1, (a - 1, a, b), 0))
  else if rAt v l = 0 then (if a = 0 then (0, (a, b, c), 7) else (a, (a, b, c), 0))
  else if rAt v l = 1 then (if b = 0 then (0, (a, b, c), 7) else (b, (b, a, c), 0))
  else (if c = 0 then (0, (a, b, c), 7) else (c, (c, a, b), 0))
/-- The same with the errors of the arguments. -/
def Rask (a b c v l : Int) : Int × (Int × Int × Int) × Int :=
  if chkL true [a, b, c] ≠ 0 then (0, (0, 0, 0), chkL true [a, b, c])
  else if v < 1 ∨ 2147483651 < v ∨ l < 0 then (0, (0, 0, 0), 2)
  else if (Rmean a b c v l).2.2 ≠ 0 then (0, (0, 0, 0), (Rmean a b c v l).2.2)
  else Rmean a b c v l
theorem rask_chk {a b c v l : Int} (h : chkL true [a, b, c] ≠ 0) : Rask a b c v l = (0, (0, 0, 0), chkL true [a, b, c]) := by unfold Rask; rw [if_pos h]
theorem rask_range {a b c v l : Int} (h : chkL true [a, b, c] = 0) (h2 : v < 1 ∨ 2147483651 < v ∨ l < 0) : Rask a b c v l = (0, (0, 0, 0), 2) := by unfold Rask; rw [if_neg (by simpa using h), if_pos h2]
theorem rask_err {a b c v l : Int} (h : chkL true [a, b, c] = 0) (h2 : ¬ (v < 1 ∨ 2147483651 < v ∨ l < 0)) (h3 : (Rmean a b c v l).2.2 ≠ 0) : Rask a b c v l = (0, (0, 0, 0), (Rmean a b c v l).2.2) := by unfold Rask; rw [if_neg (by simpa using h), if_neg h2, if_pos h3]
theorem rask_ok {a b c v l : Int} (h : chkL true [a, b, c] = 0) (h2 : ¬ (v < 1 ∨ 2147483651 < v ∨ l < 0)) (h3 : (Rmean a b c v l).2.2 = 0) : Rask a b c v l = Rmean a b c v l := by unfold Rask; rw [if_neg (by simpa using h), if_neg h2, if_neg (by simpa using h3)]
/-- The value of a distance, and the error. -/
def Rval (a b c d l : Int) : Int × Int :=
  if chkL true [a, b, c] ≠ 0 then (0, chkL true [a, b, c])
  else if d < 1 ∨ 2147483648 < d ∨ l < 0 then (0, 2)
  else if (Rmean a b c 1 l).2.2 = 0 ∧ (Rmean a b c 1 l).1 = d then (1, 0)
  else if (Rmean a b c 2 l).2.2 = 0 ∧ (Rmean a b c 2 l).1 = d then (2, 0)
  else if (Rmean a b c 3 l).2.2 = 0 ∧ (Rmean a b c 3 l).1 = d then (3, 0)
  else (d + 3, 0)
theorem rval_chk {a b c d l : Int} (h : chkL true [a, b, c] ≠ 0) : Rval a b c d l = (0, chkL true [a, b, c]) := by unfold Rval; rw [if_pos h]
theorem rval_range {a b c d l : Int} (h : chkL true [a, b, c] = 0) (h2 : d < 1 ∨ 2147483648 < d ∨ l < 0) : Rval a b c d l = (0, 2) := by unfold Rval; rw [if_neg (by simpa using h), if_pos h2]
theorem rval_in {a b c d l : Int} (h : chkL true [a, b, c] = 0) (h2 : ¬ (d < 1 ∨ 2147483648 < d ∨ l < 0)) : Rval a b c d l =
    if (Rmean a b c 1 l).2.2 = 0 ∧ (Rmean a b c 1 l).1 = d then (1, 0)
    else if (Rmean a b c 2 l).2.2 = 0 ∧ (Rmean a b c 2 l).1 = d then (2, 0)
    else if (Rmean a b c 3 l).2.2 = 0 ∧ (Rmean a b c 3 l).1 = d then (3, 0)
    else (d + 3, 0) := by unfold Rval; rw [if_neg (by simpa using h), if_neg h2]
/-- Which place of the history a value names (3: a new one), as the reference has it. -/
def Rplace (a b c v l : Int) : Int :=
  if 3 < v then 3
  else if rAt v l = 3 then (if a = 0 then 0 else if a = 1 then 0 else 3)
  else if rAt v l = 0 then 0
  else if rAt v l = 1 then (if b = 0 then 0 else 1)
  else (if c = 0 then 0 else 2)
theorem rplace_spec {a b c v l : Int} (h : (Rmean a b c v l).2.2 = 0) :
    (Rplace a b c v l = 0 → (Rmean a b c v l).2.1 = (a, b, c)) ∧ (Rplace a b c v l = 1 → (Rmean a b c v l).2.1 = ((Rmean a b c v l).1, a, c)) ∧
    (Rplace a b c v l ≠ 0 → Rplace a b c v l ≠ 1 → (Rmean a b c v l).2.1 = ((Rmean a b c v l).1, a, b)) := by
  unfold Rmean at h ⊢
  unfold Rplace
  split
  · simp
  · rename_i h1
    rw [if_neg h1] at h
    split
    · rename_i h2
      rw [if_pos h2] at h
      split
      · rename_i h3; rw [if_pos h3] at h; simp at h
      · rename_i h3
        rw [if_neg h3] at h
        split
        · rename_i h4; rw [if_pos h4] at h; simp at h
        · simp
    · rename_i h2
      rw [if_neg h2] at h
      split
      · rename_i h3
        rw [if_pos h3] at h
        split
        · rename_i h4; rw [if_pos h4] at h; simp at h
        · simp
      · rename_i h3
        rw [if_neg h3] at h
        split
        · rename_i h4
          rw [if_pos h4] at h
          split
          · rename_i h5; rw [if_pos h5] at h; simp at h
          · simp
        · rename_i h4
          rw [if_neg h4] at h
          split
          · rename_i h5; rw [if_pos h5] at h; simp at h
          · simp
theorem rmean_err {a b c v l : Int} (h : (Rmean a b c v l).2.2 ≠ 0) : (Rmean a b c v l).1 = 0 := by
  unfold Rmean at h ⊢
  split
  · rename_i h1; rw [if_pos h1] at h; simp at h
  · rename_i h1
    rw [if_neg h1] at h
    split
    · rename_i h2
      rw [if_pos h2] at h
      split
      · rfl
      · rename_i h3
        rw [if_neg h3] at h
        split
        · rfl
        · rename_i h4; rw [if_neg h4] at h; simp at h
    · rename_i h2
      rw [if_neg h2] at h
      split
      · rename_i h3
        rw [if_pos h3] at h
        split
        · rfl
        · rename_i h4; rw [if_neg h4] at h; simp at h
      · rename_i h3
        rw [if_neg h3] at h
        split
        · rename_i h4
          rw [if_pos h4] at h
          split
          · rfl
          · rename_i h5; rw [if_neg h5] at h; simp at h
        · rename_i h4
          rw [if_neg h4] at h
          split
          · rfl
          · rename_i h5; rw [if_neg h5] at h; simp at h
/-- The error of the arguments alone. -/
def Rarg (a b c v l : Int) : Int := if chkL true [a, b, c] ≠ 0 then chkL true [a, b, c] else if v < 1 ∨ 2147483651 < v ∨ l < 0 then 2 else 0
end Go.Proofs.YtmblpmaelglnpaaDoor
namespace Go.Proofs.YtmblpmaelglnpaaDoor
open Go.RowKit
set_option linter.unusedSimpArgs false
set_option linter.unusedVariables false

set_option maxRecDepth 100000 in
theorem eq23 (w : World) (a0 a1 a2 b0 b1 b2 : Int) : (Op.equalIn 10000 24 (.agg #[.int .i64 a0, .int .i64 a1, .int .i64 a2]) (.agg #[.int .i64 b0, .int .i64 b1, .int .i64 b2])).run Tryd.prog w = .ok (a0 == b0 && a1 == b1 && a2 == b2) w :=
  run_equalIn_arr3 w 9998 24 3 .i64 .i64 a0 a1 a2 b0 b1 b2 Tryd.underlying24 Tryd.underlying3 rfl
theorem idx23_0 (w : World) (a b c : Int) : (Instr.index 24 (.agg #[.int .i64 a, .int .i64 b, .int .i64 c]) (.int .i64 0)).run Tryd.prog w = .ok (.int .i64 a) w := by kernel_rfl
theorem idx23_1 (w : World) (a b c : Int) : (Instr.index 24 (.agg #[.int .i64 a, .int .i64 b, .int .i64 c]) (.int .i64 1)).run Tryd.prog w = .ok (.int .i64 b) w := by kernel_rfl
theorem idx23_2 (w : World) (a b c : Int) : (Instr.index 24 (.agg #[.int .i64 a, .int .i64 b, .int .i64 c]) (.int .i64 2)).run Tryd.prog w = .ok (.int .i64 c) w := by kernel_rfl
attribute [local go_sem] eq23 idx23_0 idx23_1 idx23_2

theorem first_p (w : World) : Calls Tryd.prog 92 #[] w fun e w' => e = .returned (.agg #[.int .i64 1, .int .i64 4, .int .i64 8]) ∧ Below w.heap.size w w' := by
  go_enter Tryd.func92, Tryd.ntmps92
  go_wp2
  repeat' (first | (go_region <;> go_wp2) | (refine wp_loop_rounds 4 ?_; rw [rounds_succ]; go_wp2) | (rw [rounds_succ]; go_wp2))
  all_goals go_light
  all_goals (try simp only [beq_iff_eq, beq_eq_false_iff_ne, bne_iff_ne, bne_eq_false_iff_eq, ne_eq] at *)
  all_goals
    refine bodyPost_ret (v := .agg #[.int .i64 1, .int .i64 4, .int .i64 8]) (by simp [results, Tryd.results92, go_sem, *]) rfl ⟨rfl, ?_⟩
    repeat' (first | exact Below.refl _ _ | refine Below.drew ?_ | refine below_drewN ?_ _ | refine Below.alloc ?_ (by first | omega | (simp <;> omega)) _ | refine Below.setCell ?_ (by first | omega | (simp <;> omega)) _ | refine Below.trans ?_ (Below.mono (by assumption) (by first | omega | (simp <;> omega))))

set_option maxHeartbeats 1000000 in
theorem check_p1 (a b c : Int) (w : World) (h : (a == 1 && b == 4 && c == 8) = true) :
    Calls Tryd.prog 59 #[.agg #[.int .i64 a, .int .i64 b, .int .i64 c]] w fun e w' => e = .returned (.int .i64 0) ∧ Below w.heap.size w w' := by
  go_enter Tryd.func59, Tryd.ntmps59
  go_wp2
  repeat' (first | ((first | (refine wp_region_later2 HA (by first | exact Nat.le_refl _ | (simp; done) | (simp; omega)) (by kernel_rfl) (by kernel_rfl) ?_; intro hLC) | (refine wp_region_later1 (by kernel_rfl) (by kernel_rfl) ?_; intro hLC)); (repeat (go_big_quiet_step ((go_at_call 92; exact Calls.later_of (first_p _))))); refine wpQuiet_nil ?_; intro w2 hb2; clear hLC; have hsz := hb2.size; (try simp at hsz); (first | (have hbl := blater2 HA (by first | exact Nat.le_refl _ | (simp; done) | (simp; omega)) hb2; obtain ⟨hcc, hff, HA, hne, hne'⟩ := hbl) | (obtain ⟨hcc, hff, HA, hne, hne'⟩ := blater1 hb2)); (try simp only [World.size_alloc, World.size_setCell] at HA); go_wp2) | (go_region <;> go_wp2))
  go_ret
  exact ⟨rfl, ((Below.refl _ _).alloc (Nat.le_refl _) _).trans (hb2.mono (by simp))⟩

set_option maxHeartbeats 1000000 in
theorem check_p2 (a b c : Int) (w : World) (h : (a == 1 && b == 4 && c == 8) = false) (h' : (a == 0 && b == 0 && c == 0) = true) :
    Calls Tryd.prog 59 #[.agg #[.int .i64 a, .int .i64 b, .int .i64 c]] w fun e w' => e = .returned (.int .i64 0) ∧ Below w.heap.size w w' := by
  go_enter Tryd.func59, Tryd.ntmps59
  go_wp2
  repeat' (first | ((first | (refine wp_region_later2 HA (by first | exact Nat.le_refl _ | (simp; done) | (simp; omega)) (by kernel_rfl) (by kernel_rfl) ?_; intro hLC) | (refine wp_region_later1 (by kernel_rfl) (by kernel_rfl) ?_; intro hLC)); (repeat (go_big_quiet_step ((go_at_call 92; exact Calls.later_of (first_p _))))); refine wpQuiet_nil ?_; intro w2 hb2; clear hLC; have hsz := hb2.size; (try simp at hsz); (first | (have hbl := blater2 HA (by first | exact Nat.le_refl _ | (simp; done) | (simp; omega)) hb2; obtain ⟨hcc, hff, HA, hne, hne'⟩ := hbl) | (obtain ⟨hcc, hff, HA, hne, hne'⟩ := blater1 hb2)); (try simp only [World.size_alloc, World.size_setCell] at HA); go_wp2) | (go_region <;> go_wp2))
  go_ret
  exact ⟨rfl, ((Below.refl _ _).alloc (Nat.le_refl _) _).trans (hb2.mono (by simp))⟩

set_option maxHeartbeats 1000000 in
theorem check_p3 (a b c : Int) (w : World) (h : (a == 1 && b == 4 && c == 8) = false) (h' : (a == 0 && b == 0 && c == 0) = false) :
    Calls Tryd.prog 59 #[.agg #[.int .i64 a, .int .i64 b, .int .i64 c]] w fun e w' => e = .returned (.int .i64 (chkL true [a, b, c])) ∧ Below w.heap.size w w' := by
  go_enter Tryd.func59, Tryd.ntmps59
  go_wp2
  repeat' (first | ((first | (refine wp_region_later2 HA (by first | exact Nat.le_refl _ | (simp; done) | (simp; omega)) (by kernel_rfl) (by kernel_rfl) ?_; intro hLC) | (refine wp_region_later1 (by kernel_rfl) (by kernel_rfl) ?_; intro hLC)); (repeat (go_big_quiet_step ((go_at_call 92; exact Calls.later_of (first_p _))))); refine wpQuiet_nil ?_; intro w2 hb2; clear hLC; have hsz := hb2.size; (try simp at hsz); (first | (have hbl := blater2 HA (by first | exact Nat.le_refl _ | (simp; done) | (simp; omega)) hb2; obtain ⟨hcc, hff, HA, hne, hne'⟩ := hbl) | (obtain ⟨hcc, hff, HA, hne, hne'⟩ := blater1 hb2)); (try simp only [World.size_alloc, World.size_setCell] at HA); go_wp2) | (go_region <;> go_wp2))
  have H2 : Hid (Below w.heap.size w w2) := ((Below.refl _ _).alloc (Nat.le_refl _) _).trans (hb2.mono (by simp))
  clear hb2 hcc hff HA hne hne' hsz h h'
  go_loopw [3, 15] (fun kn i wr => ∃ k : Nat, ∃ q : Bool, k ≤ 3 ∧ i = .int .i64 k ∧ kn = .bool q ∧ chkL q ([a, b, c].drop k) = chkL true [a, b, c] ∧ Below w2.heap.size w2 wr) (fun _ i _ => 3 - (intOf i).toNat)
  case atStart => exact ⟨0, true, by omega, rfl, rfl, rfl, Below.refl _ _⟩
  case round =>
    obtain ⟨k, q, hk, rfl, rfl, hq, hbr⟩ := hrel
    have hk' : k = 0 ∨ k = 1 ∨ k = 2 ∨ k = 3 := by omega
    rcases hk' with rfl | rfl | rfl | rfl
    all_goals
      clear hk
      simp only [List.drop] at hq
      have HQ := Lib.hid hq
      clear hq
    · cases q
      all_goals go_wp2
      · go_ret
        exact ⟨by first | (rw [← HQ.out, chkL_bad _ _ _ (.inr (.inr ⟨by assumption, rfl⟩))] <;> rfl) | (rw [chkL_bad _ _ _ (.inr (.inr ⟨by assumption, rfl⟩))] <;> rfl), H2.out.trans (hbr.mono H2.out.size)⟩
      · go_roundw
        case rel => exact ⟨1, false, by omega, by go_num, rfl, by first | (rw [← HQ.out, chkL_good _ _ _ (by go_light; simp; omega)]; simp [*]; done) | (rw [chkL_good true _ _ (by go_light; simp; omega)]; simp [*]), hbr⟩
        case measure => simp [intOf]
      · go_ret
        exact ⟨by first | (rw [← HQ.out, chkL_bad _ _ _ (.inr (.inl (by assumption)))] <;> rfl) | (rw [chkL_bad _ _ _ (.inr (.inl (by assumption)))] <;> rfl), H2.out.trans (hbr.mono H2.out.size)⟩
      · go_ret
        exact ⟨by first | (rw [← HQ.out, chkL_bad _ _ _ (.inl (by assumption))] <;> rfl) | (rw [chkL_bad _ _ _ (.inl (by assumption))] <;> rfl), H2.out.trans (hbr.mono H2.out.size)⟩
      · go_roundw
        case rel => exact ⟨1, true, by omega, by go_num, rfl, by first | (rw [← HQ.out, chkL_good _ _ _ (by go_light; simp; omega)]; simp [*]; done) | (rw [chkL_good true _ _ (by go_light; simp; omega)]; simp [*]), hbr⟩
        case measure => simp [intOf]
      · go_roundw
        case rel => exact ⟨1, false, by omega, by go_num, rfl, by first | (rw [← HQ.out, chkL_good _ _ _ (by go_light; simp; omega)]; simp [*]; done) | (rw [chkL_good true _ _ (by go_light; simp; omega)]; simp [*]), hbr⟩
        case measure => simp [intOf]
      · go_ret
        exact ⟨by first | (rw [← HQ.out, chkL_bad _ _ _ (.inr (.inl (by assumption)))] <;> rfl) | (rw [chkL_bad _ _ _ (.inr (.inl (by assumption)))] <;> rfl), H2.out.trans (hbr.mono H2.out.size)⟩
      · go_ret
        exact ⟨by first | (rw [← HQ.out, chkL_bad _ _ _ (.inl (by assumption))] <;> rfl) | (rw [chkL_bad _ _ _ (.inl (by assumption))] <;> rfl), H2.out.trans (hbr.mono H2.out.size)⟩
    · cases q
      all_goals go_wp2
      · go_ret
        exact ⟨by first | (rw [← HQ.out, chkL_bad _ _ _ (.inr (.inr ⟨by assumption, rfl⟩))] <;> rfl) | (rw [chkL_bad _ _ _ (.inr (.inr ⟨by assumption, rfl⟩))] <;> rfl), H2.out.trans (hbr.mono H2.out.size)⟩
      · go_roundw
        case rel => exact ⟨2, false, by omega, by go_num, rfl, by first | (rw [← HQ.out, chkL_good _ _ _ (by go_light; simp; omega)]; simp [*]; done) | (rw [chkL_good true _ _ (by go_light; simp; omega)]; simp [*]), hbr⟩
        case measure => simp [intOf]
      · go_ret
        exact ⟨by first | (rw [← HQ.out, chkL_bad _ _ _ (.inr (.inl (by assumption)))] <;> rfl) | (rw [chkL_bad _ _ _ (.inr (.inl (by assumption)))] <;> rfl), H2.out.trans (hbr.mono H2.out.size)⟩
      · go_ret
        exact ⟨by first | (rw [← HQ.out, chkL_bad _ _ _ (.inl (by assumption))] <;> rfl) | (rw [chkL_bad _ _ _ (.inl (by assumption))] <;> rfl), H2.out.trans (hbr.mono H2.out.size)⟩
      · go_roundw
        case rel => exact ⟨2, true, by omega, by go_num, rfl, by first | (rw [← HQ.out, chkL_good _ _ _ (by go_light; simp; omega)]; simp [*]; done) | (rw [chkL_good true _ _ (by go_light; simp; omega)]; simp [*]), hbr⟩
        case measure => simp [intOf]
      · go_roundw
        case rel => exact ⟨2, false, by omega, by go_num, rfl, by first | (rw [← HQ.out, chkL_good _ _ _ (by go_light; simp; omega)]; simp [*]; done) | (rw [chkL_good true _ _ (by go_light; simp; omega)]; simp [*]), hbr⟩
        case measure => simp [intOf]
      · go_ret
        exact ⟨by first | (rw [← HQ.out, chkL_bad _ _ _ (.inr (.inl (by assumption)))] <;> rfl) | (rw [chkL_bad _ _ _ (.inr (.inl (by assumption)))] <;> rfl), H2.out.trans (hbr.mono H2.out.size)⟩
      · go_ret
        exact ⟨by first | (rw [← HQ.out, chkL_bad _ _ _ (.inl (by assumption))] <;> rfl) | (rw [chkL_bad _ _ _ (.inl (by assumption))] <;> rfl), H2.out.trans (hbr.mono H2.out.size)⟩
    · cases q
      all_goals go_wp2
      · go_ret
        exact ⟨by first | (rw [← HQ.out, chkL_bad _ _ _ (.inr (.inr ⟨by assumption, rfl⟩))] <;> rfl) | (rw [chkL_bad _ _ _ (.inr (.inr ⟨by assumption, rfl⟩))] <;> rfl), H2.out.trans (hbr.mono H2.out.size)⟩
      · go_roundw
        case rel => exact ⟨3, false, by omega, by go_num, rfl, by first | (rw [← HQ.out, chkL_good _ _ _ (by go_light; simp; omega)]; simp [*]; done) | (rw [chkL_good true _ _ (by go_light; simp; omega)]; simp [*]), hbr⟩
        case measure => simp [intOf]
      · go_ret
        exact ⟨by first | (rw [← HQ.out, chkL_bad _ _ _ (.inr (.inl (by assumption)))] <;> rfl) | (rw [chkL_bad _ _ _ (.inr (.inl (by assumption)))] <;> rfl), H2.out.trans (hbr.mono H2.out.size)⟩
      · go_ret
        exact ⟨by first | (rw [← HQ.out, chkL_bad _ _ _ (.inl (by assumption))] <;> rfl) | (rw [chkL_bad _ _ _ (.inl (by assumption))] <;> rfl), H2.out.trans (hbr.mono H2.out.size)⟩
      · go_roundw
        case rel => exact ⟨3, true, by omega, by go_num, rfl, by first | (rw [← HQ.out, chkL_good _ _ _ (by go_light; simp; omega)]; simp [*]; done) | (rw [chkL_good true _ _ (by go_light; simp; omega)]; simp [*]), hbr⟩
        case measure => simp [intOf]
      · go_roundw
        case rel => exact ⟨3, false, by omega, by go_num, rfl, by first | (rw [← HQ.out, chkL_good _ _ _ (by go_light; simp; omega)]; simp [*]; done) | (rw [chkL_good true _ _ (by go_light; simp; omega)]; simp [*]), hbr⟩
        case measure => simp [intOf]
      · go_ret
        exact ⟨by first | (rw [← HQ.out, chkL_bad _ _ _ (.inr (.inl (by assumption)))] <;> rfl) | (rw [chkL_bad _ _ _ (.inr (.inl (by assumption)))] <;> rfl), H2.out.trans (hbr.mono H2.out.size)⟩
      · go_ret
        exact ⟨by first | (rw [← HQ.out, chkL_bad _ _ _ (.inl (by assumption))] <;> rfl) | (rw [chkL_bad _ _ _ (.inl (by assumption))] <;> rfl), H2.out.trans (hbr.mono H2.out.size)⟩
    · go_wp2
      go_ret
      exact ⟨by rw [← HQ.out] <;> rfl, H2.out.trans (hbr.mono H2.out.size)⟩

theorem check_p (a b c : Int) (w : World) :
    Calls Tryd.prog 59 #[.agg #[.int .i64 a, .int .i64 b, .int .i64 c]] w fun e w' => e = .returned (.int .i64 (chkL true [a, b, c])) ∧ Below w.heap.size w w' := by
  by_cases h : (a == 1 && b == 4 && c == 8) = true
  · have e : chkL true [a, b, c] = 0 := by simp at h; obtain ⟨⟨rfl, rfl⟩, rfl⟩ := h; decide
    rw [e]; exact check_p1 a b c w h
  · by_cases h' : (a == 0 && b == 0 && c == 0) = true
    · have e : chkL true [a, b, c] = 0 := by simp at h'; obtain ⟨⟨rfl, rfl⟩, rfl⟩ := h'; decide
      rw [e]; exact check_p2 a b c w (by simpa using h) h'
    · exact check_p3 a b c w (by simpa using h) (by simpa using h')
end Go.Proofs.YtmblpmaelglnpaaDoor
namespace Go.Proofs.YtmblpmaelglnpaaDoor
open Go.RowKit
set_option linter.unusedSimpArgs false
set_option linter.unusedVariables false

def tup (m : Int × (Int × Int × Int) × Int) : Value := .tuple #[.int .i64 m.1, .agg #[.int .i64 m.2.1.1, .int .i64 m.2.1.2.1, .int .i64 m.2.1.2.2], .int .i64 m.2.2]

set_option maxHeartbeats 1000000 in
theorem meant_p1l (a b c l : Int) (w : World) (ha : 0 ≤ a) (ha2 : a ≤ 2147483648) (h0 : (l == 0) = false) :
    Calls Tryd.prog 103 #[.agg #[.int .i64 a, .int .i64 b, .int .i64 c], .int .i64 1, .int .i64 l] w fun e w' => e = .returned (tup (Rmean a b c 1 l)) ∧ Below w.heap.size w w' := by
  go_enter Tryd.func103, Tryd.ntmps103
  go_wp2
  repeat' (first | (go_region <;> go_wp2) | (refine wp_loop_rounds 4 ?_; rw [rounds_succ]; go_wp2) | (rw [rounds_succ]; go_wp2))
  all_goals go_light
  all_goals (try simp only [beq_iff_eq, beq_eq_false_iff_ne, bne_iff_ne, bne_eq_false_iff_eq, ne_eq] at *)
  all_goals
    refine bodyPost_ret (v := tup (Rmean a b c 1 l)) (by simp [results, Tryd.results103, go_sem, tup, Rmean, rAt, *]) rfl ⟨rfl, ?_⟩
    repeat' (first | exact Below.refl _ _ | refine Below.drew ?_ | refine below_drewN ?_ _ | refine Below.alloc ?_ (by first | omega | (simp <;> omega)) _ | refine Below.setCell ?_ (by first | omega | (simp <;> omega)) _ | refine Below.trans ?_ (Below.mono (by assumption) (by first | omega | (simp <;> omega))))

set_option maxHeartbeats 1000000 in
theorem meant_p10 (a b c : Int) (w : World) (ha : 0 ≤ a) (ha2 : a ≤ 2147483648) :
    Calls Tryd.prog 103 #[.agg #[.int .i64 a, .int .i64 b, .int .i64 c], .int .i64 1, .int .i64 0] w fun e w' => e = .returned (tup (Rmean a b c 1 0)) ∧ Below w.heap.size w w' := by
  go_enter Tryd.func103, Tryd.ntmps103
  go_wp2
  repeat' (first | (go_region <;> go_wp2) | (refine wp_loop_rounds 4 ?_; rw [rounds_succ]; go_wp2) | (rw [rounds_succ]; go_wp2))
  all_goals go_light
  all_goals (try simp only [beq_iff_eq, beq_eq_false_iff_ne, bne_iff_ne, bne_eq_false_iff_eq, ne_eq] at *)
  all_goals
    refine bodyPost_ret (v := tup (Rmean a b c 1 0)) (by simp [results, Tryd.results103, go_sem, tup, Rmean, rAt, *]) rfl ⟨rfl, ?_⟩
    repeat' (first | exact Below.refl _ _ | refine Below.drew ?_ | refine below_drewN ?_ _ | refine Below.alloc ?_ (by first | omega | (simp <;> omega)) _ | refine Below.setCell ?_ (by first | omega | (simp <;> omega)) _ | refine Below.trans ?_ (Below.mono (by assumption) (by first | omega | (simp <;> omega))))

set_option maxHeartbeats 1000000 in
theorem meant_p2l (a b c l : Int) (w : World) (ha : 0 ≤ a) (ha2 : a ≤ 2147483648) (h0 : (l == 0) = false) :
    Calls Tryd.prog 103 #[.agg #[.int .i64 a, .int .i64 b, .int .i64 c], .int .i64 2, .int .i64 l] w fun e w' => e = .returned (tup (Rmean a b c 2 l)) ∧ Below w.heap.size w w' := by
  go_enter Tryd.func103, Tryd.ntmps103
  go_wp2
  repeat' (first | (go_region <;> go_wp2) | (refine wp_loop_rounds 4 ?_; rw [rounds_succ]; go_wp2) | (rw [rounds_succ]; go_wp2))
  all_goals go_light
  all_goals (try simp only [beq_iff_eq, beq_eq_false_iff_ne, bne_iff_ne, bne_eq_false_iff_eq, ne_eq] at *)
  all_goals
    refine bodyPost_ret (v := tup (Rmean a b c 2 l)) (by simp [results, Tryd.results103, go_sem, tup, Rmean, rAt, *]) rfl ⟨rfl, ?_⟩
    repeat' (first | exact Below.refl _ _ | refine Below.drew ?_ | refine below_drewN ?_ _ | refine Below.alloc ?_ (by first | omega | (simp <;> omega)) _ | refine Below.setCell ?_ (by first | omega | (simp <;> omega)) _ | refine Below.trans ?_ (Below.mono (by assumption) (by first | omega | (simp <;> omega))))

set_option maxHeartbeats 1000000 in
theorem meant_p20 (a b c : Int) (w : World) (ha : 0 ≤ a) (ha2 : a ≤ 2147483648) :
    Calls Tryd.prog 103 #[.agg #[.int .i64 a, .int .i64 b, .int .i64 c], .int .i64 2, .int .i64 0] w fun e w' => e = .returned (tup (Rmean a b c 2 0)) ∧ Below w.heap.size w w' := by
  go_enter Tryd.func103, Tryd.ntmps103
  go_wp2
  repeat' (first | (go_region <;> go_wp2) | (refine wp_loop_rounds 4 ?_; rw [rounds_succ]; go_wp2) | (rw [rounds_succ]; go_wp2))
  all_goals go_light
  all_goals (try simp only [beq_iff_eq, beq_eq_false_iff_ne, bne_iff_ne, bne_eq_false_iff_eq, ne_eq] at *)
  all_goals
    refine bodyPost_ret (v := tup (Rmean a b c 2 0)) (by simp [results, Tryd.results103, go_sem, tup, Rmean, rAt, *]) rfl ⟨rfl, ?_⟩
    repeat' (first | exact Below.refl _ _ | refine Below.drew ?_ | refine below_drewN ?_ _ | refine Below.alloc ?_ (by first | omega | (simp <;> omega)) _ | refine Below.setCell ?_ (by first | omega | (simp <;> omega)) _ | refine Below.trans ?_ (Below.mono (by assumption) (by first | omega | (simp <;> omega))))

set_option maxHeartbeats 1000000 in
theorem meant_p3l (a b c l : Int) (w : World) (ha : 0 ≤ a) (ha2 : a ≤ 2147483648) (h0 : (l == 0) = false) :
    Calls Tryd.prog 103 #[.agg #[.int .i64 a, .int .i64 b, .int .i64 c], .int .i64 3, .int .i64 l] w fun e w' => e = .returned (tup (Rmean a b c 3 l)) ∧ Below w.heap.size w w' := by
  go_enter Tryd.func103, Tryd.ntmps103
  go_wp2
  repeat' (first | (go_region <;> go_wp2) | (refine wp_loop_rounds 4 ?_; rw [rounds_succ]; go_wp2) | (rw [rounds_succ]; go_wp2))
  all_goals go_light
  all_goals (try simp only [beq_iff_eq, beq_eq_false_iff_ne, bne_iff_ne, bne_eq_false_iff_eq, ne_eq] at *)
  all_goals
    refine bodyPost_ret (v := tup (Rmean a b c 3 l)) (by simp [results, Tryd.results103, go_sem, tup, Rmean, rAt, *]) rfl ⟨rfl, ?_⟩
    repeat' (first | exact Below.refl _ _ | refine Below.drew ?_ | refine below_drewN ?_ _ | refine Below.alloc ?_ (by first | omega | (simp <;> omega)) _ | refine Below.setCell ?_ (by first | omega | (simp <;> omega)) _ | refine Below.trans ?_ (Below.mono (by assumption) (by first | omega | (simp <;> omega))))

set_option maxHeartbeats 1000000 in
theorem meant_p30 (a b c : Int) (w : World) (ha : 0 ≤ a) (ha2 : a ≤ 2147483648) :
    Calls Tryd.prog 103 #[.agg #[.int .i64 a, .int .i64 b, .int .i64 c], .int .i64 3, .int .i64 0] w fun e w' => e = .returned (tup (Rmean a b c 3 0)) ∧ Below w.heap.size w w' := by
  go_enter Tryd.func103, Tryd.ntmps103
  go_wp2
  repeat' (first | (go_region <;> go_wp2) | (refine wp_loop_rounds 4 ?_; rw [rounds_succ]; go_wp2) | (rw [rounds_succ]; go_wp2))
  all_goals go_light
  all_goals (try simp only [beq_iff_eq, beq_eq_false_iff_ne, bne_iff_ne, bne_eq_false_iff_eq, ne_eq] at *)
  all_goals
    refine bodyPost_ret (v := tup (Rmean a b c 3 0)) (by simp [results, Tryd.results103, go_sem, tup, Rmean, rAt, *]) rfl ⟨rfl, ?_⟩
    repeat' (first | exact Below.refl _ _ | refine Below.drew ?_ | refine below_drewN ?_ _ | refine Below.alloc ?_ (by first | omega | (simp <;> omega)) _ | refine Below.setCell ?_ (by first | omega | (simp <;> omega)) _ | refine Below.trans ?_ (Below.mono (by assumption) (by first | omega | (simp <;> omega))))

set_option maxHeartbeats 1000000 in
theorem meant_pb (a b c v l : Int) (w : World) (hv : 3 < v) (hv2 : v ≤ 2147483651) :
    Calls Tryd.prog 103 #[.agg #[.int .i64 a, .int .i64 b, .int .i64 c], .int .i64 v, .int .i64 l] w fun e w' => e = .returned (tup (Rmean a b c v l)) ∧ Below w.heap.size w w' := by
  go_enter Tryd.func103, Tryd.ntmps103
  go_wp2
  repeat' (first | (go_region <;> go_wp2) | (refine wp_loop_rounds 4 ?_; rw [rounds_succ]; go_wp2) | (rw [rounds_succ]; go_wp2))
  all_goals go_light
  all_goals (try simp only [beq_iff_eq, beq_eq_false_iff_ne, bne_iff_ne, bne_eq_false_iff_eq, ne_eq] at *)
  all_goals
    refine bodyPost_ret (v := tup (Rmean a b c v l)) (by simp [results, Tryd.results103, go_sem, tup, Rmean, rAt, *]) rfl ⟨rfl, ?_⟩
    repeat' (first | exact Below.refl _ _ | refine Below.drew ?_ | refine below_drewN ?_ _ | refine Below.alloc ?_ (by first | omega | (simp <;> omega)) _ | refine Below.setCell ?_ (by first | omega | (simp <;> omega)) _ | refine Below.trans ?_ (Below.mono (by assumption) (by first | omega | (simp <;> omega))))

theorem meant_p (a b c v l : Int) (w : World) (ha : 0 ≤ a) (ha2 : a ≤ 2147483648) (hv : 1 ≤ v) (hv2 : v ≤ 2147483651) :
    Calls Tryd.prog 103 #[.agg #[.int .i64 a, .int .i64 b, .int .i64 c], .int .i64 v, .int .i64 l] w fun e w' => e = .returned (tup (Rmean a b c v l)) ∧ Below w.heap.size w w' := by
  by_cases h3 : 3 < v
  · exact meant_pb a b c v l w h3 hv2
  · have : v = 1 ∨ v = 2 ∨ v = 3 := by omega
    by_cases h0 : l = 0
    · subst h0
      rcases this with rfl | rfl | rfl
      · exact meant_p10 a b c w ha ha2
      · exact meant_p20 a b c w ha ha2
      · exact meant_p30 a b c w ha ha2
    · have h0' : (l == 0) = false := by simpa using h0
      rcases this with rfl | rfl | rfl
      · exact meant_p1l a b c l w ha ha2 h0'
      · exact meant_p2l a b c l w ha ha2 h0'
      · exact meant_p3l a b c l w ha ha2 h0'

attribute [local go_sem] tup
set_option maxHeartbeats 1000000 in
theorem asked_p0 (a b c v l : Int) (w : World) (hc : (chkL true [a, b, c] != 0) = true) :
    Calls Tryd.prog 104 #[.agg #[.int .i64 a, .int .i64 b, .int .i64 c], .int .i64 v, .int .i64 l] w fun e w' => e = .returned (tup (Rask a b c v l)) ∧ Below w.heap.size w w' := by
  have HR : Hid (Rask a b c v l = (0, (0, 0, 0), chkL true [a, b, c])) := rask_chk (by simpa using hc)
  go_enter Tryd.func104, Tryd.ntmps104
  go_wp2_with ((go_at_call 59; refine (check_p _ _ _ _).mono ?_; rintro e w1 ⟨rfl, hb⟩; have hsz := hb.size; (try simp at hsz); (first | (have hbl := blater2 HA (by first | exact Nat.le_refl _ | (simp; done) | (simp; omega)) hb; obtain ⟨hcc, hff, HA, hne, hne'⟩ := hbl) | (obtain ⟨hcc, hff, HA, hne, hne'⟩ := blater1 hb)); (try simp only [World.size_alloc, World.size_setCell] at HA)))
  repeat' (first | (go_region <;> go_wp2_with ((go_at_call 59; refine (check_p _ _ _ _).mono ?_; rintro e w1 ⟨rfl, hb⟩; have hsz := hb.size; (try simp at hsz); (first | (have hbl := blater2 HA (by first | exact Nat.le_refl _ | (simp; done) | (simp; omega)) hb; obtain ⟨hcc, hff, HA, hne, hne'⟩ := hbl) | (obtain ⟨hcc, hff, HA, hne, hne'⟩ := blater1 hb)); (try simp only [World.size_alloc, World.size_setCell] at HA)))))
  all_goals go_light
  all_goals (try simp only [beq_iff_eq, beq_eq_false_iff_ne, bne_iff_ne, bne_eq_false_iff_eq, ne_eq] at *)
  all_goals
    refine bodyPost_ret (v := tup (0, (0, 0, 0), chkL true [a, b, c])) (by simp [results, Tryd.results104, go_sem, tup, *]) rfl ⟨by rw [HR.out], ?_⟩
    repeat' (first | exact Below.refl _ _ | refine Below.drew ?_ | refine below_drewN ?_ _ | refine Below.alloc ?_ (by first | omega | (simp <;> omega)) _ | refine Below.setCell ?_ (by first | omega | (simp <;> omega)) _ | refine Below.trans ?_ (Below.mono (by assumption) (by first | omega | (simp <;> omega))))

set_option maxHeartbeats 1000000 in
theorem asked_p1 (a b c v l : Int) (w : World) (hc : chkL true [a, b, c] = 0) :
    Calls Tryd.prog 104 #[.agg #[.int .i64 a, .int .i64 b, .int .i64 c], .int .i64 v, .int .i64 l] w fun e w' => e = .returned (tup (Rask a b c v l)) ∧ Below w.heap.size w w' := by
  obtain ⟨c1, c2, c3, c4, c5, c6, c7, c8⟩ := chk_ok hc
  go_enter Tryd.func104, Tryd.ntmps104
  go_wp2_with (first | (go_at_call 59; refine (check_p _ _ _ _).mono ?_; rintro e w1 ⟨rfl, hb⟩; have hsz := hb.size; (try simp at hsz); (first | (have hbl := blater2 HA (by first | exact Nat.le_refl _ | (simp; done) | (simp; omega)) hb; obtain ⟨hcc, hff, HA, hne, hne'⟩ := hbl) | (obtain ⟨hcc, hff, HA, hne, hne'⟩ := blater1 hb)); (try simp only [World.size_alloc, World.size_setCell] at HA)) | (go_at_call 103; refine (meant_p _ _ _ _ _ _ (by omega) (by omega) (by omega) (by omega)).mono ?_; rintro e w1 ⟨rfl, hb⟩; have hsz := hb.size; (try simp at hsz); (first | (have hbl := blater2 HA (by first | exact Nat.le_refl _ | (simp; done) | (simp; omega)) hb; obtain ⟨hcc, hff, HA, hne, hne'⟩ := hbl) | (obtain ⟨hcc, hff, HA, hne, hne'⟩ := blater1 hb)); (try simp only [World.size_alloc, World.size_setCell] at HA)))
  repeat' (first | (go_region <;> go_wp2_with (first | (go_at_call 59; refine (check_p _ _ _ _).mono ?_; rintro e w1 ⟨rfl, hb⟩; have hsz := hb.size; (try simp at hsz); (first | (have hbl := blater2 HA (by first | exact Nat.le_refl _ | (simp; done) | (simp; omega)) hb; obtain ⟨hcc, hff, HA, hne, hne'⟩ := hbl) | (obtain ⟨hcc, hff, HA, hne, hne'⟩ := blater1 hb)); (try simp only [World.size_alloc, World.size_setCell] at HA)) | (go_at_call 103; refine (meant_p _ _ _ _ _ _ (by omega) (by omega) (by omega) (by omega)).mono ?_; rintro e w1 ⟨rfl, hb⟩; have hsz := hb.size; (try simp at hsz); (first | (have hbl := blater2 HA (by first | exact Nat.le_refl _ | (simp; done) | (simp; omega)) hb; obtain ⟨hcc, hff, HA, hne, hne'⟩ := hbl) | (obtain ⟨hcc, hff, HA, hne, hne'⟩ := blater1 hb)); (try simp only [World.size_alloc, World.size_setCell] at HA)))))
  all_goals go_light
  all_goals (try simp only [beq_iff_eq, beq_eq_false_iff_ne, bne_iff_ne, bne_eq_false_iff_eq, ne_eq] at *)
  all_goals
    first
      | (rw [rask_range hc (by omega)]; refine bodyPost_ret (v := tup (0, (0, 0, 0), 2)) (by simp [results, Tryd.results104, go_sem, tup, *]) rfl ⟨rfl, ?_⟩)
      | (rw [rask_err hc (by omega) (by assumption)]; refine bodyPost_ret (v := tup (0, (0, 0, 0), (Rmean a b c v l).2.2)) (by simp [results, Tryd.results104, go_sem, tup, *]) rfl ⟨rfl, ?_⟩)
      | (rw [rask_ok hc (by omega) (by assumption)]; refine bodyPost_ret (v := tup (Rmean a b c v l)) (by simp [results, Tryd.results104, go_sem, tup, *]) rfl ⟨rfl, ?_⟩)
    repeat' (first | exact Below.refl _ _ | refine Below.drew ?_ | refine below_drewN ?_ _ | refine Below.alloc ?_ (by first | omega | (simp <;> omega)) _ | refine Below.setCell ?_ (by first | omega | (simp <;> omega)) _ | refine Below.trans ?_ (Below.mono (by assumption) (by first | omega | (simp <;> omega))))

theorem asked_p (a b c v l : Int) (w : World) :
    Calls Tryd.prog 104 #[.agg #[.int .i64 a, .int .i64 b, .int .i64 c], .int .i64 v, .int .i64 l] w fun e w' => e = .returned (tup (Rask a b c v l)) ∧ Below w.heap.size w w' := by
  by_cases hc : chkL true [a, b, c] = 0
  · exact asked_p1 a b c v l w hc
  · exact asked_p0 a b c v l w (by simpa using hc)

theorem distance_p (a b c v l : Int) (w : World) :
    Calls Tryd.prog 94 #[.agg #[.int .i64 a, .int .i64 b, .int .i64 c], .int .i64 v, .int .i64 l] w fun e w' => e = .returned (.tuple #[.int .i64 (Rask a b c v l).1, .int .i64 (Rask a b c v l).2.2]) ∧ Below w.heap.size w w' := by
  go_enter Tryd.func94, Tryd.ntmps94
  go_wp2_with ((go_at_call 104; refine (asked_p _ _ _ _ _ _).mono ?_; rintro e w1 ⟨rfl, hb⟩; have hsz := hb.size; (try simp at hsz); (first | (have hbl := blater2 HA (by first | exact Nat.le_refl _ | (simp; done) | (simp; omega)) hb; obtain ⟨hcc, hff, HA, hne, hne'⟩ := hbl) | (obtain ⟨hcc, hff, HA, hne, hne'⟩ := blater1 hb)); (try simp only [World.size_alloc, World.size_setCell] at HA)))
  repeat' (first | (go_region <;> go_wp2_with ((go_at_call 104; refine (asked_p _ _ _ _ _ _).mono ?_; rintro e w1 ⟨rfl, hb⟩; have hsz := hb.size; (try simp at hsz); (first | (have hbl := blater2 HA (by first | exact Nat.le_refl _ | (simp; done) | (simp; omega)) hb; obtain ⟨hcc, hff, HA, hne, hne'⟩ := hbl) | (obtain ⟨hcc, hff, HA, hne, hne'⟩ := blater1 hb)); (try simp only [World.size_alloc, World.size_setCell] at HA)))))
  all_goals go_light
  all_goals (try simp only [beq_iff_eq, beq_eq_false_iff_ne, bne_iff_ne, bne_eq_false_iff_eq, ne_eq] at *)
  all_goals
    refine bodyPost_ret (v := .tuple #[.int .i64 (Rask a b c v l).1, .int .i64 (Rask a b c v l).2.2]) (by simp [results, Tryd.results94, go_sem, tup, *]) rfl ⟨rfl, ?_⟩
    repeat' (first | exact Below.refl _ _ | refine Below.drew ?_ | refine below_drewN ?_ _ | refine Below.alloc ?_ (by first | omega | (simp <;> omega)) _ | refine Below.setCell ?_ (by first | omega | (simp <;> omega)) _ | refine Below.trans ?_ (Below.mono (by assumption) (by first | omega | (simp <;> omega))))

theorem next_p (a b c v l : Int) (w : World) :
    Calls Tryd.prog 75 #[.agg #[.int .i64 a, .int .i64 b, .int .i64 c], .int .i64 v, .int .i64 l] w fun e w' => e = .returned (.tuple #[.agg #[.int .i64 (Rask a b c v l).2.1.1, .int .i64 (Rask a b c v l).2.1.2.1, .int .i64 (Rask a b c v l).2.1.2.2], .int .i64 (Rask a b c v l).2.2]) ∧ Below w.heap.size w w' := by
  go_enter Tryd.func75, Tryd.ntmps75
  go_wp2_with ((go_at_call 104; refine (asked_p _ _ _ _ _ _).mono ?_; rintro e w1 ⟨rfl, hb⟩; have hsz := hb.size; (try simp at hsz); (first | (have hbl := blater2 HA (by first | exact Nat.le_refl _ | (simp; done) | (simp; omega)) hb; obtain ⟨hcc, hff, HA, hne, hne'⟩ := hbl) | (obtain ⟨hcc, hff, HA, hne, hne'⟩ := blater1 hb)); (try simp only [World.size_alloc, World.size_setCell] at HA)))
  repeat' (first | (go_region <;> go_wp2_with ((go_at_call 104; refine (asked_p _ _ _ _ _ _).mono ?_; rintro e w1 ⟨rfl, hb⟩; have hsz := hb.size; (try simp at hsz); (first | (have hbl := blater2 HA (by first | exact Nat.le_refl _ | (simp; done) | (simp; omega)) hb; obtain ⟨hcc, hff, HA, hne, hne'⟩ := hbl) | (obtain ⟨hcc, hff, HA, hne, hne'⟩ := blater1 hb)); (try simp only [World.size_alloc, World.size_setCell] at HA)))))
  all_goals go_light
  all_goals (try simp only [beq_iff_eq, beq_eq_false_iff_ne, bne_iff_ne, bne_eq_false_iff_eq, ne_eq] at *)
  all_goals
    refine bodyPost_ret (v := .tuple #[.agg #[.int .i64 (Rask a b c v l).2.1.1, .int .i64 (Rask a b c v l).2.1.2.1, .int .i64 (Rask a b c v l).2.1.2.2], .int .i64 (Rask a b c v l).2.2]) (by simp [results, Tryd.results75, go_sem, tup, *]) rfl ⟨rfl, ?_⟩
    repeat' (first | exact Below.refl _ _ | refine Below.drew ?_ | refine below_drewN ?_ _ | refine Below.alloc ?_ (by first | omega | (simp <;> omega)) _ | refine Below.setCell ?_ (by first | omega | (simp <;> omega)) _ | refine Below.trans ?_ (Below.mono (by assumption) (by first | omega | (simp <;> omega))))
end Go.Proofs.YtmblpmaelglnpaaDoor
namespace Go.Proofs.YtmblpmaelglnpaaDoor
open Go.RowKit
set_option linter.unusedSimpArgs false
set_option linter.unusedVariables false
attribute [local go_sem] tup

set_option maxHeartbeats 1000000 in
theorem value_p0 (a b c d l : Int) (w : World) (hc : (chkL true [a, b, c] != 0) = true) :
    Calls Tryd.prog 74 #[.agg #[.int .i64 a, .int .i64 b, .int .i64 c], .int .i64 d, .int .i64 l] w fun e w' => e = .returned (.tuple #[.int .i64 (Rval a b c d l).1, .int .i64 (Rval a b c d l).2]) ∧ Below w.heap.size w w' := by
  have HR : Hid (Rval a b c d l = (0, chkL true [a, b, c])) := rval_chk (by simpa using hc)
  have hc2 : (chkL true [a, b, c] == 0) = false := by simpa using hc
  go_enter Tryd.func74, Tryd.ntmps74
  go_wp2_with ((go_at_call 59; refine (check_p _ _ _ _).mono ?_; rintro e w1 ⟨rfl, hb⟩; have hsz := hb.size; (try simp at hsz); (first | (have hbl := blater2 HA (by first | exact Nat.le_refl _ | (simp; done) | (simp; omega)) hb; obtain ⟨hcc, hff, HA, hne, hne'⟩ := hbl) | (obtain ⟨hcc, hff, HA, hne, hne'⟩ := blater1 hb)); (try simp only [World.size_alloc, World.size_setCell] at HA)))
  repeat' (first | (go_region <;> go_wp2_with ((go_at_call 59; refine (check_p _ _ _ _).mono ?_; rintro e w1 ⟨rfl, hb⟩; have hsz := hb.size; (try simp at hsz); (first | (have hbl := blater2 HA (by first | exact Nat.le_refl _ | (simp; done) | (simp; omega)) hb; obtain ⟨hcc, hff, HA, hne, hne'⟩ := hbl) | (obtain ⟨hcc, hff, HA, hne, hne'⟩ := blater1 hb)); (try simp only [World.size_alloc, World.size_setCell] at HA)))))
  all_goals go_light
  all_goals (try simp only [beq_iff_eq, beq_eq_false_iff_ne, bne_iff_ne, bne_eq_false_iff_eq, ne_eq] at *)
  all_goals
    refine bodyPost_ret (v := .tuple #[.int .i64 0, .int .i64 (chkL true [a, b, c])]) (by simp [results, Tryd.results74, go_sem, tup, *]) rfl ⟨by rw [HR.out], ?_⟩
    repeat' (first | exact Below.refl _ _ | refine Below.drew ?_ | refine below_drewN ?_ _ | refine Below.alloc ?_ (by first | omega | (simp <;> omega)) _ | refine Below.setCell ?_ (by first | omega | (simp <;> omega)) _ | refine Below.trans ?_ (Below.mono (by assumption) (by first | omega | (simp <;> omega))))

set_option maxHeartbeats 4000000 in
theorem value_p1 (a b c d l : Int) (w : World) (hc : chkL true [a, b, c] = 0) :
    Calls Tryd.prog 74 #[.agg #[.int .i64 a, .int .i64 b, .int .i64 c], .int .i64 d, .int .i64 l] w fun e w' => e = .returned (.tuple #[.int .i64 (Rval a b c d l).1, .int .i64 (Rval a b c d l).2]) ∧ Below w.heap.size w w' := by
  obtain ⟨c1, c2, c3, c4, c5, c6, c7, c8⟩ := chk_ok hc
  go_enter Tryd.func74, Tryd.ntmps74
  go_wp2_with (first | (go_at_call 59; refine (check_p _ _ _ _).mono ?_; rintro e w1 ⟨rfl, hb⟩; have hsz := hb.size; (try simp at hsz); (first | (have hbl := blater2 HA (by first | exact Nat.le_refl _ | (simp; done) | (simp; omega)) hb; obtain ⟨hcc, hff, HA, hne, hne'⟩ := hbl) | (obtain ⟨hcc, hff, HA, hne, hne'⟩ := blater1 hb)); (try simp only [World.size_alloc, World.size_setCell] at HA)) | (go_at_call 103; refine (meant_p _ _ _ _ _ _ (by omega) (by omega) (by omega) (by omega)).mono ?_; rintro e w1 ⟨rfl, hb⟩; have hsz := hb.size; (try simp at hsz); (first | (have hbl := blater2 HA (by first | exact Nat.le_refl _ | (simp; done) | (simp; omega)) hb; obtain ⟨hcc, hff, HA, hne, hne'⟩ := hbl) | (obtain ⟨hcc, hff, HA, hne, hne'⟩ := blater1 hb)); (try simp only [World.size_alloc, World.size_setCell] at HA)))
  repeat' (first | (go_region <;> go_wp2_with (first | (go_at_call 59; refine (check_p _ _ _ _).mono ?_; rintro e w1 ⟨rfl, hb⟩; have hsz := hb.size; (try simp at hsz); (first | (have hbl := blater2 HA (by first | exact Nat.le_refl _ | (simp; done) | (simp; omega)) hb; obtain ⟨hcc, hff, HA, hne, hne'⟩ := hbl) | (obtain ⟨hcc, hff, HA, hne, hne'⟩ := blater1 hb)); (try simp only [World.size_alloc, World.size_setCell] at HA)) | (go_at_call 103; refine (meant_p _ _ _ _ _ _ (by omega) (by omega) (by omega) (by omega)).mono ?_; rintro e w1 ⟨rfl, hb⟩; have hsz := hb.size; (try simp at hsz); (first | (have hbl := blater2 HA (by first | exact Nat.le_refl _ | (simp; done) | (simp; omega)) hb; obtain ⟨hcc, hff, HA, hne, hne'⟩ := hbl) | (obtain ⟨hcc, hff, HA, hne, hne'⟩ := blater1 hb)); (try simp only [World.size_alloc, World.size_setCell] at HA)))) | (refine wp_loop_rounds 4 ?_; rw [rounds_succ]; go_wp2_with (first | (go_at_call 59; refine (check_p _ _ _ _).mono ?_; rintro e w1 ⟨rfl, hb⟩; have hsz := hb.size; (try simp at hsz); (first | (have hbl := blater2 HA (by first | exact Nat.le_refl _ | (simp; done) | (simp; omega)) hb; obtain ⟨hcc, hff, HA, hne, hne'⟩ := hbl) | (obtain ⟨hcc, hff, HA, hne, hne'⟩ := blater1 hb)); (try simp only [World.size_alloc, World.size_setCell] at HA)) | (go_at_call 103; refine (meant_p _ _ _ _ _ _ (by omega) (by omega) (by omega) (by omega)).mono ?_; rintro e w1 ⟨rfl, hb⟩; have hsz := hb.size; (try simp at hsz); (first | (have hbl := blater2 HA (by first | exact Nat.le_refl _ | (simp; done) | (simp; omega)) hb; obtain ⟨hcc, hff, HA, hne, hne'⟩ := hbl) | (obtain ⟨hcc, hff, HA, hne, hne'⟩ := blater1 hb)); (try simp only [World.size_alloc, World.size_setCell] at HA)))) | (rw [rounds_succ]; go_wp2_with (first | (go_at_call 59; refine (check_p _ _ _ _).mono ?_; rintro e w1 ⟨rfl, hb⟩; have hsz := hb.size; (try simp at hsz); (first | (have hbl := blater2 HA (by first | exact Nat.le_refl _ | (simp; done) | (simp; omega)) hb; obtain ⟨hcc, hff, HA, hne, hne'⟩ := hbl) | (obtain ⟨hcc, hff, HA, hne, hne'⟩ := blater1 hb)); (try simp only [World.size_alloc, World.size_setCell] at HA)) | (go_at_call 103; refine (meant_p _ _ _ _ _ _ (by omega) (by omega) (by omega) (by omega)).mono ?_; rintro e w1 ⟨rfl, hb⟩; have hsz := hb.size; (try simp at hsz); (first | (have hbl := blater2 HA (by first | exact Nat.le_refl _ | (simp; done) | (simp; omega)) hb; obtain ⟨hcc, hff, HA, hne, hne'⟩ := hbl) | (obtain ⟨hcc, hff, HA, hne, hne'⟩ := blater1 hb)); (try simp only [World.size_alloc, World.size_setCell] at HA)))))
  all_goals go_light
  all_goals (try simp only [beq_iff_eq, beq_eq_false_iff_ne, bne_iff_ne, bne_eq_false_iff_eq, ne_eq] at *)
  all_goals
    first
      | (rw [rval_range hc (by omega)]; refine bodyPost_ret (v := .tuple #[.int .i64 0, .int .i64 2]) (by simp [results, Tryd.results74, go_sem, tup, *]) rfl ⟨rfl, ?_⟩)
      | (rw [rval_in hc (by omega)]; simp only [*, and_self, and_false, false_and, if_true, if_false]; go_ret2; refine ⟨by first | rfl | simp [*], ?_⟩)
    repeat' (first | exact Below.refl _ _ | refine Below.drew ?_ | refine below_drewN ?_ _ | refine Below.alloc ?_ (by first | omega | (simp <;> omega)) _ | refine Below.setCell ?_ (by first | omega | (simp <;> omega)) _ | refine Below.trans ?_ (Below.mono (by assumption) (by first | omega | (simp <;> omega))))

theorem value_p (a b c d l : Int) (w : World) :
    Calls Tryd.prog 74 #[.agg #[.int .i64 a, .int .i64 b, .int .i64 c], .int .i64 d, .int .i64 l] w fun e w' => e = .returned (.tuple #[.int .i64 (Rval a b c d l).1, .int .i64 (Rval a b c d l).2]) ∧ Below w.heap.size w w' := by
  by_cases hc : chkL true [a, b, c] = 0
  · exact value_p1 a b c d l w hc
  · exact value_p0 a b c d l w (by simpa using hc)
end Go.Proofs.YtmblpmaelglnpaaDoor
namespace Go.Proofs.YtmblpmaelglnpaaDoor
set_option linter.unusedVariables false
set_option linter.unusedSimpArgs false
theorem rmean_ok {a b c v l : Int} (h : chkL true [a, b, c] = 0) (hv : 1 ≤ v) (hv2 : v ≤ 2147483651) (hl : 0 ≤ l) :
    (Rmean a b c v l).2.2 = 0 → (Rmean a b c v l).2.1.1 = (Rmean a b c v l).1 ∧ 1 ≤ (Rmean a b c v l).1 ∧ (Rmean a b c v l).1 ≤ 2147483648 ∧
      chkL true [(Rmean a b c v l).2.1.1, (Rmean a b c v l).2.1.2.1, (Rmean a b c v l).2.1.2.2] = 0 ∧
      ((Rmean a b c v l).2.1.2.1 = a ∨ (Rmean a b c v l).2.1.2.1 = b ∨ (Rmean a b c v l).2.1.2.1 = c) ∧
      ((Rmean a b c v l).2.1.2.2 = a ∨ (Rmean a b c v l).2.1.2.2 = b ∨ (Rmean a b c v l).2.1.2.2 = c) := by
  have hc := chk_ok h
  clear h
  unfold Rmean
  repeat' split
  all_goals
    intro he
    first
      | (exfalso; simp at he; done)
      | (refine ⟨rfl, ?_, ?_, chk_of ?_, ?_, ?_⟩ <;> simp only [] <;> first | omega | simp)
/-- Value of a distance: its value means it. -/
theorem rval_ok {a b c d l : Int} (h : chkL true [a, b, c] = 0) (hd : 1 ≤ d) (hd2 : d ≤ 2147483648) (hl : 0 ≤ l) :
    ∃ v, Rval a b c d l = (v, 0) ∧ 1 ≤ v ∧ v ≤ d + 3 ∧ (Rmean a b c v l).1 = d ∧ (Rmean a b c v l).2.2 = 0 ∧ Rask a b c v l = Rmean a b c v l := by
  rw [rval_in h (by omega)]
  have fin : ∀ v, 1 ≤ v → v ≤ d + 3 → (Rmean a b c v l).1 = d → (Rmean a b c v l).2.2 = 0 →
      1 ≤ v ∧ v ≤ d + 3 ∧ (Rmean a b c v l).1 = d ∧ (Rmean a b c v l).2.2 = 0 ∧ Rask a b c v l = Rmean a b c v l := fun v h1 h2 h3 h4 => ⟨h1, h2, h3, h4, rask_ok h (by omega) h4⟩
  split
  · rename_i h1; exact ⟨1, rfl, fin 1 (by omega) (by omega) h1.2 h1.1⟩
  · split
    · rename_i h1; exact ⟨2, rfl, fin 2 (by omega) (by omega) h1.2 h1.1⟩
    · split
      · rename_i h1; exact ⟨3, rfl, fin 3 (by omega) (by omega) h1.2 h1.1⟩
      · refine ⟨d + 3, rfl, fin _ (by omega) (by omega) ?_ ?_⟩ <;> (unfold Rmean; rw [if_pos (by omega)]) <;> simp
theorem rval_first {a b c d l : Int} (h : chkL true [a, b, c] = 0) (hd : 1 ≤ d) (hd2 : d ≤ 2147483648) (hl : 0 ≤ l) :
    ∃ v y z, Rval a b c d l = (v, 0) ∧ Rask a b c v l = (d, (d, y, z), 0) ∧ 1 ≤ v ∧ v ≤ d + 3 ∧ chkL true [d, y, z] = 0 ∧ (y = a ∨ y = b ∨ y = c) ∧ (z = a ∨ z = b ∨ z = c) := by
  obtain ⟨v, h1, h2, h3, h4, h5, h6⟩ := rval_ok h hd hd2 hl
  obtain ⟨g1, g2, g3, g4, g5, g6⟩ := rmean_ok h h2 (by omega) hl h5
  refine ⟨v, _, _, h1, ?_, h2, h3, ?_, g5, g6⟩
  · rw [h6]
    refine Prod.ext h4 (Prod.ext (Prod.ext (g1.trans h4) (Prod.ext rfl rfl)) h5)
  · rw [← g4, g1, h4]
/-- Which of three the element is: in the form of tests. -/
theorem three_tests {y a b c : Int} (h : y = a ∨ y = b ∨ y = c) : (y != a) = false ∨ ((y != a) = true ∧ (y != b) = false) ∨ ((y != a) = true ∧ (y != b) = true ∧ (y != c) = false) := by
  simp only [bne_iff_ne, bne_eq_false_iff_eq, ne_eq]
  omega
/-- A history made of a number. -/
def kR (k i : Int) : Int := if i < k % 4 then 1 + k / (4 + 13 * i) % (9 + 90 * i) else 0
theorem kR_chk (k : Int) (hk : 0 ≤ k) : chkL true [kR k 0, kR k 1, kR k 2] = 0 := by
  apply chk_of
  have h0 := Int.emod_nonneg (k / 4) (b := 9) (by omega)
  have h0' := Int.emod_lt_of_pos (k / 4) (b := 9) (by omega)
  have h1 := Int.emod_nonneg (k / 17) (b := 99) (by omega)
  have h1' := Int.emod_lt_of_pos (k / 17) (b := 99) (by omega)
  have h2 := Int.emod_nonneg (k / 30) (b := 189) (by omega)
  have h2' := Int.emod_lt_of_pos (k / 30) (b := 189) (by omega)
  unfold kR
  simp only [Int.mul_zero, Int.add_zero, Int.mul_one]
  repeat' split
  all_goals omega
theorem tmod_pos {a b : Int} (hb : 0 < b) (h : 0 ≤ a.tmod b) : a.tmod b = a % b := by
  rw [Int.tmod_eq_emod] at *
  have := Int.emod_nonneg a (b := b) (by omega)
  have h2 := Int.emod_lt_of_pos a hb
  split at h <;> split <;> simp_all <;> omega
theorem tmod_neg {a b : Int} (hb : 0 < b) (h : a.tmod b < 0) : a.tmod b + b = a % b := by
  rw [Int.tmod_eq_emod] at *
  have := Int.emod_nonneg a (b := b) (by omega)
  have h2 := Int.emod_lt_of_pos a hb
  split at h <;> split <;> simp_all <;> omega
end Go.Proofs.YtmblpmaelglnpaaDoor
namespace Go.Proofs.YtmblpmaelglnpaaDoor
open Go.RowKit
set_option linter.unusedSimpArgs false
set_option linter.unusedVariables false

set_option maxHeartbeats 4000000 in
theorem check_r (a b c : Int) (w : World) :
    Calls Tryd.prog 66 #[.agg #[.int .i64 a, .int .i64 b, .int .i64 c]] w fun e w' => e = .returned (.int .i64 (chkL true [a, b, c])) ∧ Below w.heap.size w w' := by
  go_enter Tryd.func66, Tryd.ntmps66
  go_wp2
  repeat' (first | (go_region <;> go_wp2) | (refine wp_loop_rounds 4 ?_; rw [rounds_succ]; go_wp2) | (rw [rounds_succ]; go_wp2))
  all_goals go_tidy
  all_goals go_light
  all_goals (try simp only [beq_iff_eq, beq_eq_false_iff_ne, bne_iff_ne, bne_eq_false_iff_eq, ne_eq] at *)
  all_goals go_ret
  all_goals
    refine ⟨by first | (rw [chk_of (by omega)] <;> rfl) | (rw [chk_ten (by omega)] <;> rfl), ?_⟩
    repeat' (first | exact Below.refl _ _ | refine Below.drew ?_ | refine below_drewN ?_ _ | refine Below.alloc ?_ (by first | omega | (simp <;> omega)) _ | refine Below.setCell ?_ (by first | omega | (simp <;> omega)) _ | refine Below.trans ?_ (Below.mono (by assumption) (by first | omega | (simp <;> omega))))
end Go.Proofs.YtmblpmaelglnpaaDoor
namespace Go.Proofs.YtmblpmaelglnpaaDoor
open Go.RowKit
set_option linter.unusedSimpArgs false
set_option linter.unusedVariables false
attribute [local go_sem] tup

set_option maxHeartbeats 1000000 in
theorem meant_r1l (a b c l : Int) (w : World) (ha : 0 ≤ a) (ha2 : a ≤ 2147483648) (h0 : (l == 0) = false) :
    Calls Tryd.prog 69 #[.agg #[.int .i64 a, .int .i64 b, .int .i64 c], .int .i64 1, .int .i64 l] w fun e w' => e = .returned (.tuple #[.int .i64 (Rmean a b c 1 l).1, .int .i64 (Rplace a b c 1 l), .int .i64 (Rmean a b c 1 l).2.2]) ∧ Below w.heap.size w w' := by
  go_enter Tryd.func69, Tryd.ntmps69
  go_wp2
  repeat' (first | (go_region <;> go_wp2) | (refine wp_loop_rounds 4 ?_; rw [rounds_succ]; go_wp2) | (rw [rounds_succ]; go_wp2))
  all_goals go_light
  all_goals (try simp only [beq_iff_eq, beq_eq_false_iff_ne, bne_iff_ne, bne_eq_false_iff_eq, ne_eq] at *)
  all_goals
    refine bodyPost_ret (v := .tuple #[.int .i64 (Rmean a b c 1 l).1, .int .i64 (Rplace a b c 1 l), .int .i64 (Rmean a b c 1 l).2.2]) (by simp [results, Tryd.results69, go_sem, Rmean, Rplace, rAt, *]) rfl ⟨rfl, ?_⟩
    repeat' (first | exact Below.refl _ _ | refine Below.drew ?_ | refine below_drewN ?_ _ | refine Below.alloc ?_ (by first | omega | (simp <;> omega)) _ | refine Below.setCell ?_ (by first | omega | (simp <;> omega)) _ | refine Below.trans ?_ (Below.mono (by assumption) (by first | omega | (simp <;> omega))))

set_option maxHeartbeats 1000000 in
theorem meant_r10 (a b c : Int) (w : World) (ha : 0 ≤ a) (ha2 : a ≤ 2147483648) :
    Calls Tryd.prog 69 #[.agg #[.int .i64 a, .int .i64 b, .int .i64 c], .int .i64 1, .int .i64 0] w fun e w' => e = .returned (.tuple #[.int .i64 (Rmean a b c 1 0).1, .int .i64 (Rplace a b c 1 0), .int .i64 (Rmean a b c 1 0).2.2]) ∧ Below w.heap.size w w' := by
  go_enter Tryd.func69, Tryd.ntmps69
  go_wp2
  repeat' (first | (go_region <;> go_wp2) | (refine wp_loop_rounds 4 ?_; rw [rounds_succ]; go_wp2) | (rw [rounds_succ]; go_wp2))
  all_goals go_light
  all_goals (try simp only [beq_iff_eq, beq_eq_false_iff_ne, bne_iff_ne, bne_eq_false_iff_eq, ne_eq] at *)
  all_goals
    refine bodyPost_ret (v := .tuple #[.int .i64 (Rmean a b c 1 0).1, .int .i64 (Rplace a b c 1 0), .int .i64 (Rmean a b c 1 0).2.2]) (by simp [results, Tryd.results69, go_sem, Rmean, Rplace, rAt, *]) rfl ⟨rfl, ?_⟩
    repeat' (first | exact Below.refl _ _ | refine Below.drew ?_ | refine below_drewN ?_ _ | refine Below.alloc ?_ (by first | omega | (simp <;> omega)) _ | refine Below.setCell ?_ (by first | omega | (simp <;> omega)) _ | refine Below.trans ?_ (Below.mono (by assumption) (by first | omega | (simp <;> omega))))

set_option maxHeartbeats 1000000 in
theorem meant_r2l (a b c l : Int) (w : World) (ha : 0 ≤ a) (ha2 : a ≤ 2147483648) (h0 : (l == 0) = false) :
    Calls Tryd.prog 69 #[.agg #[.int .i64 a, .int .i64 b, .int .i64 c], .int .i64 2, .int .i64 l] w fun e w' => e = .returned (.tuple #[.int .i64 (Rmean a b c 2 l).1, .int .i64 (Rplace a b c 2 l), .int .i64 (Rmean a b c 2 l).2.2]) ∧ Below w.heap.size w w' := by
  go_enter Tryd.func69, Tryd.ntmps69
  go_wp2
  repeat' (first | (go_region <;> go_wp2) | (refine wp_loop_rounds 4 ?_; rw [rounds_succ]; go_wp2) | (rw [rounds_succ]; go_wp2))
  all_goals go_light
  all_goals (try simp only [beq_iff_eq, beq_eq_false_iff_ne, bne_iff_ne, bne_eq_false_iff_eq, ne_eq] at *)
  all_goals
    refine bodyPost_ret (v := .tuple #[.int .i64 (Rmean a b c 2 l).1, .int .i64 (Rplace a b c 2 l), .int .i64 (Rmean a b c 2 l).2.2]) (by simp [results, Tryd.results69, go_sem, Rmean, Rplace, rAt, *]) rfl ⟨rfl, ?_⟩
    repeat' (first | exact Below.refl _ _ | refine Below.drew ?_ | refine below_drewN ?_ _ | refine Below.alloc ?_ (by first | omega | (simp <;> omega)) _ | refine Below.setCell ?_ (by first | omega | (simp <;> omega)) _ | refine Below.trans ?_ (Below.mono (by assumption) (by first | omega | (simp <;> omega))))

set_option maxHeartbeats 1000000 in
theorem meant_r20 (a b c : Int) (w : World) (ha : 0 ≤ a) (ha2 : a ≤ 2147483648) :
    Calls Tryd.prog 69 #[.agg #[.int .i64 a, .int .i64 b, .int .i64 c], .int .i64 2, .int .i64 0] w fun e w' => e = .returned (.tuple #[.int .i64 (Rmean a b c 2 0).1, .int .i64 (Rplace a b c 2 0), .int .i64 (Rmean a b c 2 0).2.2]) ∧ Below w.heap.size w w' := by
  go_enter Tryd.func69, Tryd.ntmps69
  go_wp2
  repeat' (first | (go_region <;> go_wp2) | (refine wp_loop_rounds 4 ?_; rw [rounds_succ]; go_wp2) | (rw [rounds_succ]; go_wp2))
  all_goals go_light
  all_goals (try simp only [beq_iff_eq, beq_eq_false_iff_ne, bne_iff_ne, bne_eq_false_iff_eq, ne_eq] at *)
  all_goals
    refine bodyPost_ret (v := .tuple #[.int .i64 (Rmean a b c 2 0).1, .int .i64 (Rplace a b c 2 0), .int .i64 (Rmean a b c 2 0).2.2]) (by simp [results, Tryd.results69, go_sem, Rmean, Rplace, rAt, *]) rfl ⟨rfl, ?_⟩
    repeat' (first | exact Below.refl _ _ | refine Below.drew ?_ | refine below_drewN ?_ _ | refine Below.alloc ?_ (by first | omega | (simp <;> omega)) _ | refine Below.setCell ?_ (by first | omega | (simp <;> omega)) _ | refine Below.trans ?_ (Below.mono (by assumption) (by first | omega | (simp <;> omega))))

set_option maxHeartbeats 1000000 in
theorem meant_r3l (a b c l : Int) (w : World) (ha : 0 ≤ a) (ha2 : a ≤ 2147483648) (h0 : (l == 0) = false) :
    Calls Tryd.prog 69 #[.agg #[.int .i64 a, .int .i64 b, .int .i64 c], .int .i64 3, .int .i64 l] w fun e w' => e = .returned (.tuple #[.int .i64 (Rmean a b c 3 l).1, .int .i64 (Rplace a b c 3 l), .int .i64 (Rmean a b c 3 l).2.2]) ∧ Below w.heap.size w w' := by
  go_enter Tryd.func69, Tryd.ntmps69
  go_wp2
  repeat' (first | (go_region <;> go_wp2) | (refine wp_loop_rounds 4 ?_; rw [rounds_succ]; go_wp2) | (rw [rounds_succ]; go_wp2))
  all_goals go_light
  all_goals (try simp only [beq_iff_eq, beq_eq_false_iff_ne, bne_iff_ne, bne_eq_false_iff_eq, ne_eq] at *)
  all_goals
    refine bodyPost_ret (v := .tuple #[.int .i64 (Rmean a b c 3 l).1, .int .i64 (Rplace a b c 3 l), .int .i64 (Rmean a b c 3 l).2.2]) (by simp [results, Tryd.results69, go_sem, Rmean, Rplace, rAt, *]) rfl ⟨rfl, ?_⟩
    repeat' (first | exact Below.refl _ _ | refine Below.drew ?_ | refine below_drewN ?_ _ | refine Below.alloc ?_ (by first | omega | (simp <;> omega)) _ | refine Below.setCell ?_ (by first | omega | (simp <;> omega)) _ | refine Below.trans ?_ (Below.mono (by assumption) (by first | omega | (simp <;> omega))))

set_option maxHeartbeats 1000000 in
theorem meant_r30 (a b c : Int) (w : World) (ha : 0 ≤ a) (ha2 : a ≤ 2147483648) :
    Calls Tryd.prog 69 #[.agg #[.int .i64 a, .int .i64 b, .int .i64 c], .int .i64 3, .int .i64 0] w fun e w' => e = .returned (.tuple #[.int .i64 (Rmean a b c 3 0).1, .int .i64 (Rplace a b c 3 0), .int .i64 (Rmean a b c 3 0).2.2]) ∧ Below w.heap.size w w' := by
  go_enter Tryd.func69, Tryd.ntmps69
  go_wp2
  repeat' (first | (go_region <;> go_wp2) | (refine wp_loop_rounds 4 ?_; rw [rounds_succ]; go_wp2) | (rw [rounds_succ]; go_wp2))
  all_goals go_light
  all_goals (try simp only [beq_iff_eq, beq_eq_false_iff_ne, bne_iff_ne, bne_eq_false_iff_eq, ne_eq] at *)
  all_goals
    refine bodyPost_ret (v := .tuple #[.int .i64 (Rmean a b c 3 0).1, .int .i64 (Rplace a b c 3 0), .int .i64 (Rmean a b c 3 0).2.2]) (by simp [results, Tryd.results69, go_sem, Rmean, Rplace, rAt, *]) rfl ⟨rfl, ?_⟩
    repeat' (first | exact Below.refl _ _ | refine Below.drew ?_ | refine below_drewN ?_ _ | refine Below.alloc ?_ (by first | omega | (simp <;> omega)) _ | refine Below.setCell ?_ (by first | omega | (simp <;> omega)) _ | refine Below.trans ?_ (Below.mono (by assumption) (by first | omega | (simp <;> omega))))

set_option maxHeartbeats 1000000 in
theorem meant_rb (a b c v l : Int) (w : World) (hv : 3 < v) (hv2 : v ≤ 2147483651) :
    Calls Tryd.prog 69 #[.agg #[.int .i64 a, .int .i64 b, .int .i64 c], .int .i64 v, .int .i64 l] w fun e w' => e = .returned (.tuple #[.int .i64 (Rmean a b c v l).1, .int .i64 (Rplace a b c v l), .int .i64 (Rmean a b c v l).2.2]) ∧ Below w.heap.size w w' := by
  go_enter Tryd.func69, Tryd.ntmps69
  go_wp2
  repeat' (first | (go_region <;> go_wp2) | (refine wp_loop_rounds 4 ?_; rw [rounds_succ]; go_wp2) | (rw [rounds_succ]; go_wp2))
  all_goals go_light
  all_goals (try simp only [beq_iff_eq, beq_eq_false_iff_ne, bne_iff_ne, bne_eq_false_iff_eq, ne_eq] at *)
  all_goals
    refine bodyPost_ret (v := .tuple #[.int .i64 (Rmean a b c v l).1, .int .i64 (Rplace a b c v l), .int .i64 (Rmean a b c v l).2.2]) (by simp [results, Tryd.results69, go_sem, Rmean, Rplace, rAt, *]) rfl ⟨rfl, ?_⟩
    repeat' (first | exact Below.refl _ _ | refine Below.drew ?_ | refine below_drewN ?_ _ | refine Below.alloc ?_ (by first | omega | (simp <;> omega)) _ | refine Below.setCell ?_ (by first | omega | (simp <;> omega)) _ | refine Below.trans ?_ (Below.mono (by assumption) (by first | omega | (simp <;> omega))))

theorem meant_r (a b c v l : Int) (w : World) (ha : 0 ≤ a) (ha2 : a ≤ 2147483648) (hv : 1 ≤ v) (hv2 : v ≤ 2147483651) :
    Calls Tryd.prog 69 #[.agg #[.int .i64 a, .int .i64 b, .int .i64 c], .int .i64 v, .int .i64 l] w fun e w' => e = .returned (.tuple #[.int .i64 (Rmean a b c v l).1, .int .i64 (Rplace a b c v l), .int .i64 (Rmean a b c v l).2.2]) ∧ Below w.heap.size w w' := by
  by_cases h3 : 3 < v
  · exact meant_rb a b c v l w h3 hv2
  · have : v = 1 ∨ v = 2 ∨ v = 3 := by omega
    by_cases h0 : l = 0
    · subst h0
      rcases this with rfl | rfl | rfl
      · exact meant_r10 a b c w ha ha2
      · exact meant_r20 a b c w ha ha2
      · exact meant_r30 a b c w ha ha2
    · have h0' : (l == 0) = false := by simpa using h0
      rcases this with rfl | rfl | rfl
      · exact meant_r1l a b c l w ha ha2 h0'
      · exact meant_r2l a b c l w ha ha2 h0'
      · exact meant_r3l a b c l w ha ha2 h0'

set_option maxHeartbeats 1000000 in
theorem asked_r (a b c v l : Int) (w : World) :
    Calls Tryd.prog 68 #[.agg #[.int .i64 a, .int .i64 b, .int .i64 c], .int .i64 v, .int .i64 l] w fun e w' => e = .returned (.int .i64 (Rarg a b c v l)) ∧ Below w.heap.size w w' := by
  go_enter Tryd.func68, Tryd.ntmps68
  go_wp2_with ((go_at_call 66; refine (check_r _ _ _ _).mono ?_; rintro e w1 ⟨rfl, hb⟩; have hsz := hb.size; (try simp at hsz); (first | (have hbl := blater2 HA (by first | exact Nat.le_refl _ | (simp; done) | (simp; omega)) hb; obtain ⟨hcc, hff, HA, hne, hne'⟩ := hbl) | (obtain ⟨hcc, hff, HA, hne, hne'⟩ := blater1 hb)); (try simp only [World.size_alloc, World.size_setCell] at HA)))
  repeat' (first | (go_region <;> go_wp2_with ((go_at_call 66; refine (check_r _ _ _ _).mono ?_; rintro e w1 ⟨rfl, hb⟩; have hsz := hb.size; (try simp at hsz); (first | (have hbl := blater2 HA (by first | exact Nat.le_refl _ | (simp; done) | (simp; omega)) hb; obtain ⟨hcc, hff, HA, hne, hne'⟩ := hbl) | (obtain ⟨hcc, hff, HA, hne, hne'⟩ := blater1 hb)); (try simp only [World.size_alloc, World.size_setCell] at HA)))))
  all_goals go_light
  all_goals (try simp only [beq_iff_eq, beq_eq_false_iff_ne, bne_iff_ne, bne_eq_false_iff_eq, ne_eq] at *)
  all_goals go_ret
  all_goals
    refine ⟨?_, ?_⟩
    · first | (simp [Rarg, *]; done) | (refine congrArg (fun n => Ending.returned (.int .i64 n)) ?_; unfold Rarg; (repeat' split) <;> first | rfl | omega)
    · repeat' (first | exact Below.refl _ _ | refine Below.drew ?_ | refine below_drewN ?_ _ | refine Below.alloc ?_ (by first | omega | (simp <;> omega)) _ | refine Below.setCell ?_ (by first | omega | (simp <;> omega)) _ | refine Below.trans ?_ (Below.mono (by assumption) (by first | omega | (simp <;> omega))))

set_option maxHeartbeats 1000000 in
theorem distance_r (a b c v l : Int) (w : World) :
    Calls Tryd.prog 98 #[.agg #[.int .i64 a, .int .i64 b, .int .i64 c], .int .i64 v, .int .i64 l] w fun e w' => e = .returned (.tuple #[.int .i64 (Rask a b c v l).1, .int .i64 (Rask a b c v l).2.2]) ∧ Below w.heap.size w w' := by
  by_cases hc : chkL true [a, b, c] = 0
  · obtain ⟨c1, c2, c3, c4, c5, c6, c7, c8⟩ := chk_ok hc
    by_cases hr : v < 1 ∨ 2147483651 < v ∨ l < 0
    · have ea : Rarg a b c v l = 2 := by unfold Rarg; rw [if_neg (by simpa using hc), if_pos hr]
      have HR := Lib.hid (rask_range hc hr)
      clear hr hc
      go_enter Tryd.func98, Tryd.ntmps98
      go_wp2_with (first | (go_at_call 68; refine (asked_r _ _ _ _ _ _).mono ?_; rintro e w1 ⟨rfl, hb⟩; have hsz := hb.size; (try simp at hsz); (first | (have hbl := blater2 HA (by first | exact Nat.le_refl _ | (simp; done) | (simp; omega)) hb; obtain ⟨hcc, hff, HA, hne, hne'⟩ := hbl) | (obtain ⟨hcc, hff, HA, hne, hne'⟩ := blater1 hb)); (try simp only [World.size_alloc, World.size_setCell] at HA)) | (go_at_call 69; refine (meant_r _ _ _ _ _ _ (by omega) (by omega) (by omega) (by omega)).mono ?_; rintro e w1 ⟨rfl, hb⟩; have hsz := hb.size; (try simp at hsz); (first | (have hbl := blater2 HA (by first | exact Nat.le_refl _ | (simp; done) | (simp; omega)) hb; obtain ⟨hcc, hff, HA, hne, hne'⟩ := hbl) | (obtain ⟨hcc, hff, HA, hne, hne'⟩ := blater1 hb)); (try simp only [World.size_alloc, World.size_setCell] at HA)))
      repeat' (first | (go_region <;> go_wp2_with (first | (go_at_call 68; refine (asked_r _ _ _ _ _ _).mono ?_; rintro e w1 ⟨rfl, hb⟩; have hsz := hb.size; (try simp at hsz); (first | (have hbl := blater2 HA (by first | exact Nat.le_refl _ | (simp; done) | (simp; omega)) hb; obtain ⟨hcc, hff, HA, hne, hne'⟩ := hbl) | (obtain ⟨hcc, hff, HA, hne, hne'⟩ := blater1 hb)); (try simp only [World.size_alloc, World.size_setCell] at HA)) | (go_at_call 69; refine (meant_r _ _ _ _ _ _ (by omega) (by omega) (by omega) (by omega)).mono ?_; rintro e w1 ⟨rfl, hb⟩; have hsz := hb.size; (try simp at hsz); (first | (have hbl := blater2 HA (by first | exact Nat.le_refl _ | (simp; done) | (simp; omega)) hb; obtain ⟨hcc, hff, HA, hne, hne'⟩ := hbl) | (obtain ⟨hcc, hff, HA, hne, hne'⟩ := blater1 hb)); (try simp only [World.size_alloc, World.size_setCell] at HA)))))
      all_goals go_light
      all_goals (try simp only [beq_iff_eq, beq_eq_false_iff_ne, bne_iff_ne, bne_eq_false_iff_eq, ne_eq] at *)
      all_goals
        refine bodyPost_ret (v := .tuple #[.int .i64 0, .int .i64 2]) (by simp [results, Tryd.results98, go_sem, *]) rfl ⟨by rw [HR.out], ?_⟩
        repeat' (first | exact Below.refl _ _ | refine Below.drew ?_ | refine below_drewN ?_ _ | refine Below.alloc ?_ (by first | omega | (simp <;> omega)) _ | refine Below.setCell ?_ (by first | omega | (simp <;> omega)) _ | refine Below.trans ?_ (Below.mono (by assumption) (by first | omega | (simp <;> omega))))
    · have ea : Rarg a b c v l = 0 := by unfold Rarg; rw [if_neg (by simpa using hc), if_neg hr]
      have hr1 : 1 ≤ v := by omega
      have hr2 : v ≤ 2147483651 := by omega
      have hr3 : 0 ≤ l := by omega
      have HC := Lib.hid hc
      have HN := Lib.hid hr
      clear hr hc
      go_enter Tryd.func98, Tryd.ntmps98
      go_wp2_with (first | (go_at_call 68; refine (asked_r _ _ _ _ _ _).mono ?_; rintro e w1 ⟨rfl, hb⟩; have hsz := hb.size; (try simp at hsz); (first | (have hbl := blater2 HA (by first | exact Nat.le_refl _ | (simp; done) | (simp; omega)) hb; obtain ⟨hcc, hff, HA, hne, hne'⟩ := hbl) | (obtain ⟨hcc, hff, HA, hne, hne'⟩ := blater1 hb)); (try simp only [World.size_alloc, World.size_setCell] at HA)) | (go_at_call 69; refine (meant_r _ _ _ _ _ _ (by omega) (by omega) (by omega) (by omega)).mono ?_; rintro e w1 ⟨rfl, hb⟩; have hsz := hb.size; (try simp at hsz); (first | (have hbl := blater2 HA (by first | exact Nat.le_refl _ | (simp; done) | (simp; omega)) hb; obtain ⟨hcc, hff, HA, hne, hne'⟩ := hbl) | (obtain ⟨hcc, hff, HA, hne, hne'⟩ := blater1 hb)); (try simp only [World.size_alloc, World.size_setCell] at HA)))
      repeat' (first | (go_region <;> go_wp2_with (first | (go_at_call 68; refine (asked_r _ _ _ _ _ _).mono ?_; rintro e w1 ⟨rfl, hb⟩; have hsz := hb.size; (try simp at hsz); (first | (have hbl := blater2 HA (by first | exact Nat.le_refl _ | (simp; done) | (simp; omega)) hb; obtain ⟨hcc, hff, HA, hne, hne'⟩ := hbl) | (obtain ⟨hcc, hff, HA, hne, hne'⟩ := blater1 hb)); (try simp only [World.size_alloc, World.size_setCell] at HA)) | (go_at_call 69; refine (meant_r _ _ _ _ _ _ (by omega) (by omega) (by omega) (by omega)).mono ?_; rintro e w1 ⟨rfl, hb⟩; have hsz := hb.size; (try simp at hsz); (first | (have hbl := blater2 HA (by first | exact Nat.le_refl _ | (simp; done) | (simp; omega)) hb; obtain ⟨hcc, hff, HA, hne, hne'⟩ := hbl) | (obtain ⟨hcc, hff, HA, hne, hne'⟩ := blater1 hb)); (try simp only [World.size_alloc, World.size_setCell] at HA)))))
      all_goals go_light
      all_goals (try simp only [beq_iff_eq, beq_eq_false_iff_ne, bne_iff_ne, bne_eq_false_iff_eq, ne_eq] at *)
      all_goals
        by_cases h2 : (Rmean a b c v l).2.2 = 0
        · rw [rask_ok HC.out HN.out h2]
          refine bodyPost_ret (v := .tuple #[.int .i64 (Rmean a b c v l).1, .int .i64 (Rmean a b c v l).2.2]) (by simp [results, Tryd.results98, go_sem]) rfl ⟨rfl, ?_⟩
          repeat' (first | exact Below.refl _ _ | refine Below.drew ?_ | refine below_drewN ?_ _ | refine Below.alloc ?_ (by first | omega | (simp <;> omega)) _ | refine Below.setCell ?_ (by first | omega | (simp <;> omega)) _ | refine Below.trans ?_ (Below.mono (by assumption) (by first | omega | (simp <;> omega))))
        · rw [rask_err HC.out HN.out h2]
          refine bodyPost_ret (v := .tuple #[.int .i64 (Rmean a b c v l).1, .int .i64 (Rmean a b c v l).2.2]) (by simp [results, Tryd.results98, go_sem]) rfl ⟨by rw [rmean_err h2], ?_⟩
          repeat' (first | exact Below.refl _ _ | refine Below.drew ?_ | refine below_drewN ?_ _ | refine Below.alloc ?_ (by first | omega | (simp <;> omega)) _ | refine Below.setCell ?_ (by first | omega | (simp <;> omega)) _ | refine Below.trans ?_ (Below.mono (by assumption) (by first | omega | (simp <;> omega))))
  · have ea : Rarg a b c v l = chkL true [a, b, c] := by unfold Rarg; rw [if_pos hc]
    have hb : (chkL true [a, b, c] != 0) = true := by simpa using hc
    have HR := Lib.hid (rask_chk (v := v) (l := l) hc)
    clear hc
    go_enter Tryd.func98, Tryd.ntmps98
    go_wp2_with (first | (go_at_call 68; refine (asked_r _ _ _ _ _ _).mono ?_; rintro e w1 ⟨rfl, hb⟩; have hsz := hb.size; (try simp at hsz); (first | (have hbl := blater2 HA (by first | exact Nat.le_refl _ | (simp; done) | (simp; omega)) hb; obtain ⟨hcc, hff, HA, hne, hne'⟩ := hbl) | (obtain ⟨hcc, hff, HA, hne, hne'⟩ := blater1 hb)); (try simp only [World.size_alloc, World.size_setCell] at HA)) | (go_at_call 69; refine (meant_r _ _ _ _ _ _ (by omega) (by omega) (by omega) (by omega)).mono ?_; rintro e w1 ⟨rfl, hb⟩; have hsz := hb.size; (try simp at hsz); (first | (have hbl := blater2 HA (by first | exact Nat.le_refl _ | (simp; done) | (simp; omega)) hb; obtain ⟨hcc, hff, HA, hne, hne'⟩ := hbl) | (obtain ⟨hcc, hff, HA, hne, hne'⟩ := blater1 hb)); (try simp only [World.size_alloc, World.size_setCell] at HA)))
    repeat' (first | (go_region <;> go_wp2_with (first | (go_at_call 68; refine (asked_r _ _ _ _ _ _).mono ?_; rintro e w1 ⟨rfl, hb⟩; have hsz := hb.size; (try simp at hsz); (first | (have hbl := blater2 HA (by first | exact Nat.le_refl _ | (simp; done) | (simp; omega)) hb; obtain ⟨hcc, hff, HA, hne, hne'⟩ := hbl) | (obtain ⟨hcc, hff, HA, hne, hne'⟩ := blater1 hb)); (try simp only [World.size_alloc, World.size_setCell] at HA)) | (go_at_call 69; refine (meant_r _ _ _ _ _ _ (by omega) (by omega) (by omega) (by omega)).mono ?_; rintro e w1 ⟨rfl, hb⟩; have hsz := hb.size; (try simp at hsz); (first | (have hbl := blater2 HA (by first | exact Nat.le_refl _ | (simp; done) | (simp; omega)) hb; obtain ⟨hcc, hff, HA, hne, hne'⟩ := hbl) | (obtain ⟨hcc, hff, HA, hne, hne'⟩ := blater1 hb)); (try simp only [World.size_alloc, World.size_setCell] at HA)))))
    all_goals go_light
    all_goals (try simp only [beq_iff_eq, beq_eq_false_iff_ne, bne_iff_ne, bne_eq_false_iff_eq, ne_eq] at *)
    all_goals
      refine bodyPost_ret (v := .tuple #[.int .i64 0, .int .i64 (chkL true [a, b, c])]) (by simp [results, Tryd.results98, go_sem, *]) rfl ⟨by rw [HR.out], ?_⟩
      repeat' (first | exact Below.refl _ _ | refine Below.drew ?_ | refine below_drewN ?_ _ | refine Below.alloc ?_ (by first | omega | (simp <;> omega)) _ | refine Below.setCell ?_ (by first | omega | (simp <;> omega)) _ | refine Below.trans ?_ (Below.mono (by assumption) (by first | omega | (simp <;> omega))))

set_option maxHeartbeats 1000000 in
theorem next_r (a b c v l : Int) (w : World) :
    Calls Tryd.prog 22 #[.agg #[.int .i64 a, .int .i64 b, .int .i64 c], .int .i64 v, .int .i64 l] w fun e w' => e = .returned (.tuple #[.agg #[.int .i64 (Rask a b c v l).2.1.1, .int .i64 (Rask a b c v l).2.1.2.1, .int .i64 (Rask a b c v l).2.1.2.2], .int .i64 (Rask a b c v l).2.2]) ∧ Below w.heap.size w w' := by
  by_cases hc : chkL true [a, b, c] = 0
  · obtain ⟨c1, c2, c3, c4, c5, c6, c7, c8⟩ := chk_ok hc
    by_cases hr : v < 1 ∨ 2147483651 < v ∨ l < 0
    · have ea : Rarg a b c v l = 2 := by unfold Rarg; rw [if_neg (by simpa using hc), if_pos hr]
      have HR := Lib.hid (rask_range hc hr)
      clear hr hc
      go_enter Tryd.func22, Tryd.ntmps22
      go_wp2_with (first | (go_at_call 68; refine (asked_r _ _ _ _ _ _).mono ?_; rintro e w1 ⟨rfl, hb⟩; have hsz := hb.size; (try simp at hsz); (first | (have hbl := blater2 HA (by first | exact Nat.le_refl _ | (simp; done) | (simp; omega)) hb; obtain ⟨hcc, hff, HA, hne, hne'⟩ := hbl) | (obtain ⟨hcc, hff, HA, hne, hne'⟩ := blater1 hb)); (try simp only [World.size_alloc, World.size_setCell] at HA)) | (go_at_call 69; refine (meant_r _ _ _ _ _ _ (by omega) (by omega) (by omega) (by omega)).mono ?_; rintro e w1 ⟨rfl, hb⟩; have hsz := hb.size; (try simp at hsz); (first | (have hbl := blater2 HA (by first | exact Nat.le_refl _ | (simp; done) | (simp; omega)) hb; obtain ⟨hcc, hff, HA, hne, hne'⟩ := hbl) | (obtain ⟨hcc, hff, HA, hne, hne'⟩ := blater1 hb)); (try simp only [World.size_alloc, World.size_setCell] at HA)))
      repeat' (first | (go_region <;> go_wp2_with (first | (go_at_call 68; refine (asked_r _ _ _ _ _ _).mono ?_; rintro e w1 ⟨rfl, hb⟩; have hsz := hb.size; (try simp at hsz); (first | (have hbl := blater2 HA (by first | exact Nat.le_refl _ | (simp; done) | (simp; omega)) hb; obtain ⟨hcc, hff, HA, hne, hne'⟩ := hbl) | (obtain ⟨hcc, hff, HA, hne, hne'⟩ := blater1 hb)); (try simp only [World.size_alloc, World.size_setCell] at HA)) | (go_at_call 69; refine (meant_r _ _ _ _ _ _ (by omega) (by omega) (by omega) (by omega)).mono ?_; rintro e w1 ⟨rfl, hb⟩; have hsz := hb.size; (try simp at hsz); (first | (have hbl := blater2 HA (by first | exact Nat.le_refl _ | (simp; done) | (simp; omega)) hb; obtain ⟨hcc, hff, HA, hne, hne'⟩ := hbl) | (obtain ⟨hcc, hff, HA, hne, hne'⟩ := blater1 hb)); (try simp only [World.size_alloc, World.size_setCell] at HA)))))
      all_goals go_light
      all_goals (try simp only [beq_iff_eq, beq_eq_false_iff_ne, bne_iff_ne, bne_eq_false_iff_eq, ne_eq] at *)
      all_goals
        refine bodyPost_ret (v := .tuple #[.agg #[.int .i64 0, .int .i64 0, .int .i64 0], .int .i64 2]) (by simp [results, Tryd.results22, go_sem, *]) rfl ⟨by rw [HR.out], ?_⟩
        repeat' (first | exact Below.refl _ _ | refine Below.drew ?_ | refine below_drewN ?_ _ | refine Below.alloc ?_ (by first | omega | (simp <;> omega)) _ | refine Below.setCell ?_ (by first | omega | (simp <;> omega)) _ | refine Below.trans ?_ (Below.mono (by assumption) (by first | omega | (simp <;> omega))))
    · have ea : Rarg a b c v l = 0 := by unfold Rarg; rw [if_neg (by simpa using hc), if_neg hr]
      have hr1 : 1 ≤ v := by omega
      have hr2 : v ≤ 2147483651 := by omega
      have hr3 : 0 ≤ l := by omega
      have HC := Lib.hid hc
      have HN := Lib.hid hr
      clear hr hc
      go_enter Tryd.func22, Tryd.ntmps22
      go_wp2_with (first | (go_at_call 68; refine (asked_r _ _ _ _ _ _).mono ?_; rintro e w1 ⟨rfl, hb⟩; have hsz := hb.size; (try simp at hsz); (first | (have hbl := blater2 HA (by first | exact Nat.le_refl _ | (simp; done) | (simp; omega)) hb; obtain ⟨hcc, hff, HA, hne, hne'⟩ := hbl) | (obtain ⟨hcc, hff, HA, hne, hne'⟩ := blater1 hb)); (try simp only [World.size_alloc, World.size_setCell] at HA)) | (go_at_call 69; refine (meant_r _ _ _ _ _ _ (by omega) (by omega) (by omega) (by omega)).mono ?_; rintro e w1 ⟨rfl, hb⟩; have hsz := hb.size; (try simp at hsz); (first | (have hbl := blater2 HA (by first | exact Nat.le_refl _ | (simp; done) | (simp; omega)) hb; obtain ⟨hcc, hff, HA, hne, hne'⟩ := hbl) | (obtain ⟨hcc, hff, HA, hne, hne'⟩ := blater1 hb)); (try simp only [World.size_alloc, World.size_setCell] at HA)))
      repeat' (first | (go_region <;> go_wp2_with (first | (go_at_call 68; refine (asked_r _ _ _ _ _ _).mono ?_; rintro e w1 ⟨rfl, hb⟩; have hsz := hb.size; (try simp at hsz); (first | (have hbl := blater2 HA (by first | exact Nat.le_refl _ | (simp; done) | (simp; omega)) hb; obtain ⟨hcc, hff, HA, hne, hne'⟩ := hbl) | (obtain ⟨hcc, hff, HA, hne, hne'⟩ := blater1 hb)); (try simp only [World.size_alloc, World.size_setCell] at HA)) | (go_at_call 69; refine (meant_r _ _ _ _ _ _ (by omega) (by omega) (by omega) (by omega)).mono ?_; rintro e w1 ⟨rfl, hb⟩; have hsz := hb.size; (try simp at hsz); (first | (have hbl := blater2 HA (by first | exact Nat.le_refl _ | (simp; done) | (simp; omega)) hb; obtain ⟨hcc, hff, HA, hne, hne'⟩ := hbl) | (obtain ⟨hcc, hff, HA, hne, hne'⟩ := blater1 hb)); (try simp only [World.size_alloc, World.size_setCell] at HA)))))
      all_goals go_light
      all_goals (try simp only [beq_iff_eq, beq_eq_false_iff_ne, bne_iff_ne, bne_eq_false_iff_eq, ne_eq] at *)
      all_goals
        first
          | (rw [rask_err HC.out HN.out (by assumption)]; refine bodyPost_ret (v := .tuple #[.agg #[.int .i64 0, .int .i64 0, .int .i64 0], .int .i64 (Rmean a b c v l).2.2]) (by simp [results, Tryd.results22, go_sem, *]) rfl ⟨rfl, ?_⟩)
          | (rw [rask_ok HC.out HN.out (by assumption), (rplace_spec (by assumption)).1 (by assumption)]; refine bodyPost_ret (v := .tuple #[.agg #[.int .i64 a, .int .i64 b, .int .i64 c], .int .i64 0]) (by simp [results, Tryd.results22, go_sem, *]) rfl ⟨by simp [*], ?_⟩)
          | (rw [rask_ok HC.out HN.out (by assumption), (rplace_spec (by assumption)).2.1 (by assumption)]; refine bodyPost_ret (v := .tuple #[.agg #[.int .i64 (Rmean a b c v l).1, .int .i64 a, .int .i64 c], .int .i64 0]) (by simp [results, Tryd.results22, go_sem, *]) rfl ⟨by simp [*], ?_⟩)
          | (rw [rask_ok HC.out HN.out (by assumption), (rplace_spec (by assumption)).2.2 (by assumption) (by assumption)]; refine bodyPost_ret (v := .tuple #[.agg #[.int .i64 (Rmean a b c v l).1, .int .i64 a, .int .i64 b], .int .i64 0]) (by simp [results, Tryd.results22, go_sem, *]) rfl ⟨by simp [*], ?_⟩)
        repeat' (first | exact Below.refl _ _ | refine Below.drew ?_ | refine below_drewN ?_ _ | refine Below.alloc ?_ (by first | omega | (simp <;> omega)) _ | refine Below.setCell ?_ (by first | omega | (simp <;> omega)) _ | refine Below.trans ?_ (Below.mono (by assumption) (by first | omega | (simp <;> omega))))
  · have ea : Rarg a b c v l = chkL true [a, b, c] := by unfold Rarg; rw [if_pos hc]
    have hb : (chkL true [a, b, c] != 0) = true := by simpa using hc
    have HR := Lib.hid (rask_chk (v := v) (l := l) hc)
    clear hc
    go_enter Tryd.func22, Tryd.ntmps22
    go_wp2_with (first | (go_at_call 68; refine (asked_r _ _ _ _ _ _).mono ?_; rintro e w1 ⟨rfl, hb⟩; have hsz := hb.size; (try simp at hsz); (first | (have hbl := blater2 HA (by first | exact Nat.le_refl _ | (simp; done) | (simp; omega)) hb; obtain ⟨hcc, hff, HA, hne, hne'⟩ := hbl) | (obtain ⟨hcc, hff, HA, hne, hne'⟩ := blater1 hb)); (try simp only [World.size_alloc, World.size_setCell] at HA)) | (go_at_call 69; refine (meant_r _ _ _ _ _ _ (by omega) (by omega) (by omega) (by omega)).mono ?_; rintro e w1 ⟨rfl, hb⟩; have hsz := hb.size; (try simp at hsz); (first | (have hbl := blater2 HA (by first | exact Nat.le_refl _ | (simp; done) | (simp; omega)) hb; obtain ⟨hcc, hff, HA, hne, hne'⟩ := hbl) | (obtain ⟨hcc, hff, HA, hne, hne'⟩ := blater1 hb)); (try simp only [World.size_alloc, World.size_setCell] at HA)))
    repeat' (first | (go_region <;> go_wp2_with (first | (go_at_call 68; refine (asked_r _ _ _ _ _ _).mono ?_; rintro e w1 ⟨rfl, hb⟩; have hsz := hb.size; (try simp at hsz); (first | (have hbl := blater2 HA (by first | exact Nat.le_refl _ | (simp; done) | (simp; omega)) hb; obtain ⟨hcc, hff, HA, hne, hne'⟩ := hbl) | (obtain ⟨hcc, hff, HA, hne, hne'⟩ := blater1 hb)); (try simp only [World.size_alloc, World.size_setCell] at HA)) | (go_at_call 69; refine (meant_r _ _ _ _ _ _ (by omega) (by omega) (by omega) (by omega)).mono ?_; rintro e w1 ⟨rfl, hb⟩; have hsz := hb.size; (try simp at hsz); (first | (have hbl := blater2 HA (by first | exact Nat.le_refl _ | (simp; done) | (simp; omega)) hb; obtain ⟨hcc, hff, HA, hne, hne'⟩ := hbl) | (obtain ⟨hcc, hff, HA, hne, hne'⟩ := blater1 hb)); (try simp only [World.size_alloc, World.size_setCell] at HA)))))
    all_goals go_light
    all_goals (try simp only [beq_iff_eq, beq_eq_false_iff_ne, bne_iff_ne, bne_eq_false_iff_eq, ne_eq] at *)
    all_goals
      refine bodyPost_ret (v := .tuple #[.agg #[.int .i64 0, .int .i64 0, .int .i64 0], .int .i64 (chkL true [a, b, c])]) (by simp [results, Tryd.results22, go_sem, *]) rfl ⟨by rw [HR.out], ?_⟩
      repeat' (first | exact Below.refl _ _ | refine Below.drew ?_ | refine below_drewN ?_ _ | refine Below.alloc ?_ (by first | omega | (simp <;> omega)) _ | refine Below.setCell ?_ (by first | omega | (simp <;> omega)) _ | refine Below.trans ?_ (Below.mono (by assumption) (by first | omega | (simp <;> omega))))

set_option maxHeartbeats 1000000 in
theorem value_r0 (a b c d l : Int) (w : World) (hc : (chkL true [a, b, c] != 0) = true) :
    Calls Tryd.prog 76 #[.agg #[.int .i64 a, .int .i64 b, .int .i64 c], .int .i64 d, .int .i64 l] w fun e w' => e = .returned (.tuple #[.int .i64 (Rval a b c d l).1, .int .i64 (Rval a b c d l).2]) ∧ Below w.heap.size w w' := by
  have HR : Hid (Rval a b c d l = (0, chkL true [a, b, c])) := rval_chk (by simpa using hc)
  have hc2 : (chkL true [a, b, c] == 0) = false := by simpa using hc
  go_enter Tryd.func76, Tryd.ntmps76
  go_wp2_with ((go_at_call 66; refine (check_r _ _ _ _).mono ?_; rintro e w1 ⟨rfl, hb⟩; have hsz := hb.size; (try simp at hsz); (first | (have hbl := blater2 HA (by first | exact Nat.le_refl _ | (simp; done) | (simp; omega)) hb; obtain ⟨hcc, hff, HA, hne, hne'⟩ := hbl) | (obtain ⟨hcc, hff, HA, hne, hne'⟩ := blater1 hb)); (try simp only [World.size_alloc, World.size_setCell] at HA)))
  repeat' (first | (go_region <;> go_wp2_with ((go_at_call 66; refine (check_r _ _ _ _).mono ?_; rintro e w1 ⟨rfl, hb⟩; have hsz := hb.size; (try simp at hsz); (first | (have hbl := blater2 HA (by first | exact Nat.le_refl _ | (simp; done) | (simp; omega)) hb; obtain ⟨hcc, hff, HA, hne, hne'⟩ := hbl) | (obtain ⟨hcc, hff, HA, hne, hne'⟩ := blater1 hb)); (try simp only [World.size_alloc, World.size_setCell] at HA)))))
  all_goals go_light
  all_goals (try simp only [beq_iff_eq, beq_eq_false_iff_ne, bne_iff_ne, bne_eq_false_iff_eq, ne_eq] at *)
  all_goals
    refine bodyPost_ret (v := .tuple #[.int .i64 0, .int .i64 (chkL true [a, b, c])]) (by simp [results, Tryd.results76, go_sem, tup, *]) rfl ⟨by rw [HR.out], ?_⟩
    repeat' (first | exact Below.refl _ _ | refine Below.drew ?_ | refine below_drewN ?_ _ | refine Below.alloc ?_ (by first | omega | (simp <;> omega)) _ | refine Below.setCell ?_ (by first | omega | (simp <;> omega)) _ | refine Below.trans ?_ (Below.mono (by assumption) (by first | omega | (simp <;> omega))))

set_option maxHeartbeats 4000000 in
theorem value_r1 (a b c d l : Int) (w : World) (hc : chkL true [a, b, c] = 0) :
    Calls Tryd.prog 76 #[.agg #[.int .i64 a, .int .i64 b, .int .i64 c], .int .i64 d, .int .i64 l] w fun e w' => e = .returned (.tuple #[.int .i64 (Rval a b c d l).1, .int .i64 (Rval a b c d l).2]) ∧ Below w.heap.size w w' := by
  obtain ⟨c1, c2, c3, c4, c5, c6, c7, c8⟩ := chk_ok hc
  go_enter Tryd.func76, Tryd.ntmps76
  go_wp2_with (first | (go_at_call 66; refine (check_r _ _ _ _).mono ?_; rintro e w1 ⟨rfl, hb⟩; have hsz := hb.size; (try simp at hsz); (first | (have hbl := blater2 HA (by first | exact Nat.le_refl _ | (simp; done) | (simp; omega)) hb; obtain ⟨hcc, hff, HA, hne, hne'⟩ := hbl) | (obtain ⟨hcc, hff, HA, hne, hne'⟩ := blater1 hb)); (try simp only [World.size_alloc, World.size_setCell] at HA)) | (go_at_call 69; refine (meant_r _ _ _ _ _ _ (by omega) (by omega) (by omega) (by omega)).mono ?_; rintro e w1 ⟨rfl, hb⟩; have hsz := hb.size; (try simp at hsz); (first | (have hbl := blater2 HA (by first | exact Nat.le_refl _ | (simp; done) | (simp; omega)) hb; obtain ⟨hcc, hff, HA, hne, hne'⟩ := hbl) | (obtain ⟨hcc, hff, HA, hne, hne'⟩ := blater1 hb)); (try simp only [World.size_alloc, World.size_setCell] at HA)))
  repeat' (first | (go_region <;> go_wp2_with (first | (go_at_call 66; refine (check_r _ _ _ _).mono ?_; rintro e w1 ⟨rfl, hb⟩; have hsz := hb.size; (try simp at hsz); (first | (have hbl := blater2 HA (by first | exact Nat.le_refl _ | (simp; done) | (simp; omega)) hb; obtain ⟨hcc, hff, HA, hne, hne'⟩ := hbl) | (obtain ⟨hcc, hff, HA, hne, hne'⟩ := blater1 hb)); (try simp only [World.size_alloc, World.size_setCell] at HA)) | (go_at_call 69; refine (meant_r _ _ _ _ _ _ (by omega) (by omega) (by omega) (by omega)).mono ?_; rintro e w1 ⟨rfl, hb⟩; have hsz := hb.size; (try simp at hsz); (first | (have hbl := blater2 HA (by first | exact Nat.le_refl _ | (simp; done) | (simp; omega)) hb; obtain ⟨hcc, hff, HA, hne, hne'⟩ := hbl) | (obtain ⟨hcc, hff, HA, hne, hne'⟩ := blater1 hb)); (try simp only [World.size_alloc, World.size_setCell] at HA)))) | (refine wp_loop_rounds 4 ?_; rw [rounds_succ]; go_wp2_with (first | (go_at_call 66; refine (check_r _ _ _ _).mono ?_; rintro e w1 ⟨rfl, hb⟩; have hsz := hb.size; (try simp at hsz); (first | (have hbl := blater2 HA (by first | exact Nat.le_refl _ | (simp; done) | (simp; omega)) hb; obtain ⟨hcc, hff, HA, hne, hne'⟩ := hbl) | (obtain ⟨hcc, hff, HA, hne, hne'⟩ := blater1 hb)); (try simp only [World.size_alloc, World.size_setCell] at HA)) | (go_at_call 69; refine (meant_r _ _ _ _ _ _ (by omega) (by omega) (by omega) (by omega)).mono ?_; rintro e w1 ⟨rfl, hb⟩; have hsz := hb.size; (try simp at hsz); (first | (have hbl := blater2 HA (by first | exact Nat.le_refl _ | (simp; done) | (simp; omega)) hb; obtain ⟨hcc, hff, HA, hne, hne'⟩ := hbl) | (obtain ⟨hcc, hff, HA, hne, hne'⟩ := blater1 hb)); (try simp only [World.size_alloc, World.size_setCell] at HA)))) | (rw [rounds_succ]; go_wp2_with (first | (go_at_call 66; refine (check_r _ _ _ _).mono ?_; rintro e w1 ⟨rfl, hb⟩; have hsz := hb.size; (try simp at hsz); (first | (have hbl := blater2 HA (by first | exact Nat.le_refl _ | (simp; done) | (simp; omega)) hb; obtain ⟨hcc, hff, HA, hne, hne'⟩ := hbl) | (obtain ⟨hcc, hff, HA, hne, hne'⟩ := blater1 hb)); (try simp only [World.size_alloc, World.size_setCell] at HA)) | (go_at_call 69; refine (meant_r _ _ _ _ _ _ (by omega) (by omega) (by omega) (by omega)).mono ?_; rintro e w1 ⟨rfl, hb⟩; have hsz := hb.size; (try simp at hsz); (first | (have hbl := blater2 HA (by first | exact Nat.le_refl _ | (simp; done) | (simp; omega)) hb; obtain ⟨hcc, hff, HA, hne, hne'⟩ := hbl) | (obtain ⟨hcc, hff, HA, hne, hne'⟩ := blater1 hb)); (try simp only [World.size_alloc, World.size_setCell] at HA)))))
  all_goals go_light
  all_goals (try simp only [beq_iff_eq, beq_eq_false_iff_ne, bne_iff_ne, bne_eq_false_iff_eq, ne_eq] at *)
  all_goals
    first
      | (rw [rval_range hc (by omega)]; refine bodyPost_ret (v := .tuple #[.int .i64 0, .int .i64 2]) (by simp [results, Tryd.results76, go_sem, tup, *]) rfl ⟨rfl, ?_⟩)
      | (rw [rval_in hc (by omega)]; simp only [*, and_self, and_false, false_and, if_true, if_false]; go_ret2; refine ⟨by first | rfl | simp [*], ?_⟩)
    repeat' (first | exact Below.refl _ _ | refine Below.drew ?_ | refine below_drewN ?_ _ | refine Below.alloc ?_ (by first | omega | (simp <;> omega)) _ | refine Below.setCell ?_ (by first | omega | (simp <;> omega)) _ | refine Below.trans ?_ (Below.mono (by assumption) (by first | omega | (simp <;> omega))))

theorem value_r (a b c d l : Int) (w : World) :
    Calls Tryd.prog 76 #[.agg #[.int .i64 a, .int .i64 b, .int .i64 c], .int .i64 d, .int .i64 l] w fun e w' => e = .returned (.tuple #[.int .i64 (Rval a b c d l).1, .int .i64 (Rval a b c d l).2]) ∧ Below w.heap.size w w' := by
  by_cases hc : chkL true [a, b, c] = 0
  · exact value_r1 a b c d l w hc
  · exact value_r0 a b c d l w (by simpa using hc)
end Go.Proofs.YtmblpmaelglnpaaDoor
namespace Go.Proofs.YtmblpmaelglnpaaDoor
open Go.RowKit
set_option linter.unusedSimpArgs false
set_option linter.unusedVariables false
attribute [local go_sem] eq23 idx23_0 idx23_1 idx23_2 tup

end Go.Proofs.YtmblpmaelglnpaaDoor
namespace Go.Proofs.YtmblpmaelglnpaaDoor
open Go.RowKit
set_option linter.unusedSimpArgs false
set_option linter.unusedVariables false
attribute [local go_sem] eq23 idx23_0 idx23_1 idx23_2 tup

theorem mod_k (a b : Int) (hb : 1 ≤ b) (hb2 : b ≤ 4611686018427387904) (w : World) :
    Calls Tryd.prog 21 #[.int .i64 a, .int .i64 b] w fun e w' => e = .returned (.int .i64 (a % b)) ∧ Below w.heap.size w w' := by
  have h1 := Int.lt_tmod_of_pos a (b := b) (by omega)
  have h2 := Int.tmod_lt_of_pos a (b := b) (by omega)
  go_enter Tryd.func21, Tryd.ntmps21
  go_wp2
  all_goals go_ret
  · rw [← tmod_neg (by omega) (by assumption)]
    exact ⟨rfl, Below.refl _ _⟩
  · rw [← tmod_pos (by omega) (by assumption)]
    exact ⟨rfl, Below.refl _ _⟩
end Go.Proofs.YtmblpmaelglnpaaDoor
