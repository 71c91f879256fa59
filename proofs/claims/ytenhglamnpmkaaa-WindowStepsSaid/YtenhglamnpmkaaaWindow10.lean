/-
  The statements' helpers on windows, and WindowFinds, WindowCommon, WindowKnown, walked.
-/
import Derived.Test.YtenhglamnpmkaaaRows
import Derived.Test.YtenhglamnpmkaaaWindow9
import Derived.Test.YtenhglamnpmkaaaKnSame
import Derived.WalkMore
import Derived.Test.YtenhglamnpmkaaaCommon
import Derived.Deep.Light
import Derived.Shelf.Abstract
import Derived.Shelf.RegionOpen
import Derived.OwnWalkIn
import Derived.TacticsInMore
import Derived.LoopNIn
import Derived.LoopIn
namespace Go.Proofs.Ytenhglamnpmkaaa
open Go.RowKit
set_option linter.unusedSimpArgs false
set_option linter.unusedVariables false
attribute [local go_sem] Oper.semAt_some

theorem cand_x (s : ByteArray) (p e l most : Int) (w : World) (hl : s.size ≤ 9223372036854775807) (xs : List Int) (E : Int) (hx : nats (wcandR s p e l most).1 = xs) (hE : (wcandR s p e l most).2 = E) :
    Calls Try.prog 41 #[.string s, .int .i64 p, .int .i64 e, .int .i64 l, .int .i64 most] w fun e' w' => ∃ pa ca, Hid (xs.length ≤ ca) ∧ e' = .returned (.tuple #[.slice pa xs.length ca, .int .i64 E]) ∧ Row .i64 w' pa xs ∧ Below w.heap.size w w' := by
  refine (cand_p s p e l most w hl).mono ?_
  rintro e' w' ⟨pa, ca, h0, h1, h2, h3⟩
  rw [hx] at h2
  rw [hE, ← nats_len, hx] at h1
  exact ⟨pa, ca, by rw [← hx, nats_len]; exact Lib.hid h0, h1, h2, h3⟩

theorem rcand_x (s : ByteArray) (p e l most : Int) (w : World) (hl : s.size ≤ 9223372036854775807) (xs : List Int) (E : Int) (hx : nats (wcandR s p e l most).1 = xs) (hE : (wcandR s p e l most).2 = E) :
    Calls Try.prog 42 #[.string s, .int .i64 p, .int .i64 e, .int .i64 l, .int .i64 most] w fun e' w' => ∃ pa ca, Hid (xs.length ≤ ca) ∧ e' = .returned (.tuple #[.slice pa xs.length ca, .int .i64 E]) ∧ Row .i64 w' pa xs ∧ Below w.heap.size w w' := by
  refine (rcand_p s p e l most w hl).mono ?_
  rintro e' w' ⟨pa, ca, h0, h1, h2, h3⟩
  rw [hx] at h2
  rw [hE, ← nats_len, hx] at h1
  exact ⟨pa, ca, by rw [← hx, nats_len]; exact Lib.hid h0, h1, h2, h3⟩

theorem finds_t (p e m : Int) (a : Option Addr) (xs : List Int) (n ca : Nat) (w : World) (hn : n = xs.length) (ha : Row .i64 w a xs) (hl : n ≤ 9223372036854775807) (h : (fun R : List Nat × Int => (nats R.1, R.2)) (wcandR ⟨#[97, 98, 99, 100, 97, 98, 99, 100, 97, 98, 99, 100]⟩ p e 10 m) = (xs, 0)) :
    Calls Try.prog 53 #[.int .i64 p, .int .i64 e, .int .i64 m, .slice a n ca] w fun e' w' => e' = .returned (.bool true) ∧ Below w.heap.size w w' := by
  subst hn
  have q1 := fun w => cand_x ⟨#[97, 98, 99, 100, 97, 98, 99, 100, 97, 98, 99, 100]⟩ p e 10 m w (by decide) xs 0 (congrArg Prod.fst h) (congrArg Prod.snd h)
  clear h
  go_enter Try.func53, Try.ntmps53
  go_wp2_with (first | (go_at_call 41; refine (q1 _).mono ?_; rintro e w1 ⟨pA, cA, hcA, rfl, hrA, hb⟩; have hsz := hb.size; (try simp at hsz)) | (go_at_call 32; refine (kn_same _ _ xs _ _ _ _ (hrA.later (by repeat' (first | exact Below.refl _ _ | refine Below.drew ?_ | refine below_drewN ?_ _ | refine Below.alloc ?_ (by first | omega | (simp <;> omega)) _ | refine Below.setCell ?_ (by first | omega | (simp <;> omega)) _ | refine Below.trans ?_ (Below.mono (by assumption) (by first | omega | (simp <;> omega)))))) (ha.later (by repeat' (first | exact Below.refl _ _ | refine Below.drew ?_ | refine below_drewN ?_ _ | refine Below.alloc ?_ (by first | omega | (simp <;> omega)) _ | refine Below.setCell ?_ (by first | omega | (simp <;> omega)) _ | refine Below.trans ?_ (Below.mono (by assumption) (by first | omega | (simp <;> omega)))))) rfl hl).mono ?_; rintro e w1 ⟨rfl, hb⟩; have hsz := hb.size; (try simp at hsz)))
  repeat' (first | (go_region <;> go_wp2_with (first | (go_at_call 41; refine (q1 _).mono ?_; rintro e w1 ⟨pA, cA, hcA, rfl, hrA, hb⟩; have hsz := hb.size; (try simp at hsz)) | (go_at_call 32; refine (kn_same _ _ xs _ _ _ _ (hrA.later (by repeat' (first | exact Below.refl _ _ | refine Below.drew ?_ | refine below_drewN ?_ _ | refine Below.alloc ?_ (by first | omega | (simp <;> omega)) _ | refine Below.setCell ?_ (by first | omega | (simp <;> omega)) _ | refine Below.trans ?_ (Below.mono (by assumption) (by first | omega | (simp <;> omega)))))) (ha.later (by repeat' (first | exact Below.refl _ _ | refine Below.drew ?_ | refine below_drewN ?_ _ | refine Below.alloc ?_ (by first | omega | (simp <;> omega)) _ | refine Below.setCell ?_ (by first | omega | (simp <;> omega)) _ | refine Below.trans ?_ (Below.mono (by assumption) (by first | omega | (simp <;> omega)))))) rfl hl).mono ?_; rintro e w1 ⟨rfl, hb⟩; have hsz := hb.size; (try simp at hsz)))))
  all_goals go_light
  all_goals (try simp only [beq_iff_eq, beq_eq_false_iff_ne, bne_iff_ne, bne_eq_false_iff_eq, ne_eq] at *)
  all_goals
    refine bodyPost_ret (v := .bool true) (by simp [results, Try.results53, go_sem, *]) rfl ⟨rfl, ?_⟩
    repeat' (first | exact Below.refl _ _ | refine Below.drew ?_ | refine below_drewN ?_ _ | refine Below.alloc ?_ (by first | omega | (simp <;> omega)) _ | refine Below.setCell ?_ (by first | omega | (simp <;> omega)) _ | refine Below.trans ?_ (Below.mono (by assumption) (by first | omega | (simp <;> omega))))

theorem common_t (q p e n : Int) (w : World) (h : wcom ⟨#[97, 98, 99, 100, 97, 98, 99, 100, 97, 98, 99, 100]⟩ q p e = (n, 0)) :
    Calls Try.prog 54 #[.int .i64 q, .int .i64 p, .int .i64 e, .int .i64 n] w fun e' w' => e' = .returned (.bool true) ∧ Below w.heap.size w w' := by
  have q1 := fun w => wcommon_p ⟨#[97, 98, 99, 100, 97, 98, 99, 100, 97, 98, 99, 100]⟩ q p e w (by decide)
  rw [h] at q1
  clear h
  go_enter Try.func54, Try.ntmps54
  go_wp2_with ((go_at_call 47; refine (q1 _).mono ?_; rintro e w1 ⟨rfl, hb⟩; have hsz := hb.size; (try simp at hsz)))
  repeat' (first | (go_region <;> go_wp2_with ((go_at_call 47; refine (q1 _).mono ?_; rintro e w1 ⟨rfl, hb⟩; have hsz := hb.size; (try simp at hsz)))))
  all_goals go_light
  all_goals (try simp only [beq_iff_eq, beq_eq_false_iff_ne, bne_iff_ne, bne_eq_false_iff_eq, ne_eq] at *)
  all_goals
    refine bodyPost_ret (v := .bool true) (by simp [results, Try.results54, go_sem, *]) rfl ⟨rfl, ?_⟩
    repeat' (first | exact Below.refl _ _ | refine Below.drew ?_ | refine below_drewN ?_ _ | refine Below.alloc ?_ (by first | omega | (simp <;> omega)) _ | refine Below.setCell ?_ (by first | omega | (simp <;> omega)) _ | refine Below.trans ?_ (Below.mono (by assumption) (by first | omega | (simp <;> omega))))
theorem kn_chk1 (w : World) : Calls Try.prog 45 #[.string ⟨#[97, 98, 99, 100, 97, 98, 99, 100, 97, 98, 99, 100]⟩, .int .i64 13, .int .i64 13, .int .i64 10] w fun e w' => e = .returned (.int .i64 2) ∧ Below w.heap.size w w' := by
  have e : wchk (ByteArray.size ⟨#[97, 98, 99, 100, 97, 98, 99, 100, 97, 98, 99, 100]⟩) 13 13 10 = 2 := by decide +kernel
  have := wcheck_p ⟨#[97, 98, 99, 100, 97, 98, 99, 100, 97, 98, 99, 100]⟩ 13 13 10 w (by decide)
  rw [e] at this
  exact this
theorem kn_chk2 (w : World) : Calls Try.prog 45 #[.string ⟨#[97, 98, 99, 100, 97, 98, 99, 100, 97, 98, 99, 100]⟩, .int .i64 1, .int .i64 12, .int .i64 9] w fun e w' => e = .returned (.int .i64 2) ∧ Below w.heap.size w w' := by
  have e : wchk (ByteArray.size ⟨#[97, 98, 99, 100, 97, 98, 99, 100, 97, 98, 99, 100]⟩) 1 12 9 = 2 := by decide +kernel
  have := wcheck_p ⟨#[97, 98, 99, 100, 97, 98, 99, 100, 97, 98, 99, 100]⟩ 1 12 9 w (by decide)
  rw [e] at this
  exact this
theorem kn_com (w : World) : Calls Try.prog 47 #[.string ⟨#[97, 98, 99, 100, 97, 98, 99, 100, 97, 98, 99, 100]⟩, .int .i64 4, .int .i64 4, .int .i64 12] w fun e w' => e = .returned (.tuple #[.int .i64 0, .int .i64 2]) ∧ Below w.heap.size w w' := by
  have e : wcom ⟨#[97, 98, 99, 100, 97, 98, 99, 100, 97, 98, 99, 100]⟩ 4 4 12 = (0, 2) := by decide +kernel
  have := wcommon_p ⟨#[97, 98, 99, 100, 97, 98, 99, 100, 97, 98, 99, 100]⟩ 4 4 12 w (by decide)
  rw [e] at this
  exact this
theorem kn_near (w : World) : Calls Try.prog 43 #[.string ⟨#[97, 97, 97, 97, 97, 97]⟩, .int .i64 1, .int .i64 6, .int .i64 10] w fun e w' => e = .returned (.tuple #[.int .i64 0, .bool true, .int .i64 0]) ∧ Below w.heap.size w w' := by
  have e : wnearR ⟨#[97, 97, 97, 97, 97, 97]⟩ 1 6 10 = (0, true, 0) := by decide +kernel
  have := near_p ⟨#[97, 97, 97, 97, 97, 97]⟩ 1 6 10 w (by decide)
  rw [e] at this
  exact this
theorem kn_rea1 (w : World) : Calls Try.prog 49 #[.int .i64 8, .int .i64 10] w fun e w' => e = .returned (.tuple #[.int .i64 8, .int .i64 0]) ∧ Below w.heap.size w w' := by
  have e : wrea 8 10 = (8, 0) := by decide +kernel
  have := wreach_p 8 10 w
  rw [e] at this
  exact this
theorem kn_rea2 (w : World) : Calls Try.prog 49 #[.int .i64 5000, .int .i64 10] w fun e w' => e = .returned (.tuple #[.int .i64 1024, .int .i64 0]) ∧ Below w.heap.size w w' := by
  have e : wrea 5000 10 = (1024, 0) := by decide +kernel
  have := wreach_p 5000 10 w
  rw [e] at this
  exact this
theorem kn_four1 (w : World) : Calls Try.prog 51 #[.string ⟨#[97, 98, 99, 100, 97, 98, 99, 100, 97, 98, 99, 100]⟩, .int .i64 0] w fun e w' => e = .returned (.tuple #[.int .i64 1684234849, .int .i64 0]) ∧ Below w.heap.size w w' := by
  have e : wfour ⟨#[97, 98, 99, 100, 97, 98, 99, 100, 97, 98, 99, 100]⟩ 0 = (1684234849, 0) := by decide +kernel
  have := wfour_p ⟨#[97, 98, 99, 100, 97, 98, 99, 100, 97, 98, 99, 100]⟩ 0 w (by decide)
  rw [e] at this
  exact this
theorem kn_four2 (w : World) : Calls Try.prog 51 #[.string ⟨#[97, 98, 99, 100, 97, 98, 99, 100, 97, 98, 99, 100]⟩, .int .i64 9] w fun e w' => e = .returned (.tuple #[.int .i64 0, .int .i64 2]) ∧ Below w.heap.size w w' := by
  have e : wfour ⟨#[97, 98, 99, 100, 97, 98, 99, 100, 97, 98, 99, 100]⟩ 9 = (0, 2) := by decide +kernel
  have := wfour_p ⟨#[97, 98, 99, 100, 97, 98, 99, 100, 97, 98, 99, 100]⟩ 9 w (by decide)
  rw [e] at this
  exact this
theorem fi1 (a : Option Addr) (ca : Nat) (w : World) (ha : Row .i64 w a [4, 0]) : Calls Try.prog 53 #[.int .i64 8, .int .i64 12, .int .i64 9, .slice a 2 ca] w fun e' w' => e' = .returned (.bool true) ∧ Below w.heap.size w w' :=
  finds_t 8 12 9 a [4, 0] 2 ca w rfl ha (by decide) (by decide +kernel)
theorem fi2 (a : Option Addr) (ca : Nat) (w : World) (ha : Row .i64 w a [4]) : Calls Try.prog 53 #[.int .i64 8, .int .i64 12, .int .i64 1, .slice a 1 ca] w fun e' w' => e' = .returned (.bool true) ∧ Below w.heap.size w w' :=
  finds_t 8 12 1 a [4] 1 ca w rfl ha (by decide) (by decide +kernel)
theorem fi3 (a : Option Addr) (ca : Nat) (w : World) (ha : Row .i64 w a []) : Calls Try.prog 53 #[.int .i64 8, .int .i64 11, .int .i64 9, .slice a 0 ca] w fun e' w' => e' = .returned (.bool true) ∧ Below w.heap.size w w' :=
  finds_t 8 11 9 a [] 0 ca w rfl ha (by decide) (by decide +kernel)
theorem fi4 (a : Option Addr) (ca : Nat) (w : World) (ha : Row .i64 w a []) : Calls Try.prog 53 #[.int .i64 0, .int .i64 12, .int .i64 9, .slice a 0 ca] w fun e' w' => e' = .returned (.bool true) ∧ Below w.heap.size w w' :=
  finds_t 0 12 9 a [] 0 ca w rfl ha (by decide) (by decide +kernel)
theorem co1 (w : World) : Calls Try.prog 54 #[.int .i64 0, .int .i64 4, .int .i64 12, .int .i64 8] w fun e' w' => e' = .returned (.bool true) ∧ Below w.heap.size w w' := common_t 0 4 12 8 w (by decide +kernel)
theorem co2 (w : World) : Calls Try.prog 54 #[.int .i64 0, .int .i64 4, .int .i64 7, .int .i64 3] w fun e' w' => e' = .returned (.bool true) ∧ Below w.heap.size w w' := common_t 0 4 7 3 w (by decide +kernel)
theorem co3 (w : World) : Calls Try.prog 54 #[.int .i64 0, .int .i64 1, .int .i64 12, .int .i64 0] w fun e' w' => e' = .returned (.bool true) ∧ Below w.heap.size w w' := common_t 0 1 12 0 w (by decide +kernel)
theorem row_1 (x : Int) (w : World) (t : TypeId) : Row .i64 (w.alloc (.cells #[.int .i64 x] t)) (some ⟨w.heap.size, 0, none⟩) [x] := Row.of_block (heap_alloc_new _ _) rfl
theorem row_2 (x y : Int) (w : World) (t : TypeId) : Row .i64 (w.alloc (.cells #[.int .i64 x, .int .i64 y] t)) (some ⟨w.heap.size, 0, none⟩) [x, y] := Row.of_block (heap_alloc_new _ _) rfl
theorem awake_t (w : World) : Calls Try.prog 40 #[] w fun e w' => e = .returned (.bool true) ∧ Below w.heap.size w w' := by
  go_enter Try.func40, Try.ntmps40
  go_wp2_with (first | (go_at_call 53; (with_reducible refine (fi1 _ _ _ (row_2 _ _ _ _)).mono ?_); rintro e w1 ⟨rfl, hb⟩; have hsz := hb.size; (try simp at hsz)) | (go_at_call 54; (with_reducible refine (co1 _).mono ?_); rintro e w1 ⟨rfl, hb⟩; have hsz := hb.size; (try simp at hsz)) | (go_at_call 45; (with_reducible refine (kn_chk1 _).mono ?_); rintro e w1 ⟨rfl, hb⟩; have hsz := hb.size; (try simp at hsz)))
  repeat' (first | (go_region <;> go_wp2_with (first | (go_at_call 53; (with_reducible refine (fi1 _ _ _ (row_2 _ _ _ _)).mono ?_); rintro e w1 ⟨rfl, hb⟩; have hsz := hb.size; (try simp at hsz)) | (go_at_call 54; (with_reducible refine (co1 _).mono ?_); rintro e w1 ⟨rfl, hb⟩; have hsz := hb.size; (try simp at hsz)) | (go_at_call 45; (with_reducible refine (kn_chk1 _).mono ?_); rintro e w1 ⟨rfl, hb⟩; have hsz := hb.size; (try simp at hsz)))))
  all_goals go_light
  all_goals (try simp only [beq_iff_eq, beq_eq_false_iff_ne, bne_iff_ne, bne_eq_false_iff_eq, ne_eq] at *)
  all_goals
    refine bodyPost_ret (v := .bool true) (by simp [results, Try.results40, go_sem, *]) rfl ⟨rfl, ?_⟩
    repeat' (first | exact Below.refl _ _ | refine Below.drew ?_ | refine below_drewN ?_ _ | refine Below.alloc ?_ (by first | omega | (simp <;> omega)) _ | refine Below.setCell ?_ (by first | omega | (simp <;> omega)) _ | refine Below.trans ?_ (Below.mono (by assumption) (by first | omega | (simp <;> omega))))
set_option maxRecDepth 100000 in
set_option maxHeartbeats 2000000 in
theorem windowKnown_w (w : World) : Calls Try.prog 11 #[] w fun e w' => e = .returned (.bool true) ∧ Below w.heap.size w w' := by
  go_enter Try.func11, Try.ntmps11
  go_wp2_with (first | (go_at_call 40; refine (awake_t _).mono ?_; rintro e w1 ⟨rfl, hb⟩; have hsz := hb.size; (try simp at hsz)) | (go_at_call 53; (with_reducible refine (fi2 _ _ _ (row_1 _ _ _)).mono ?_); rintro e w1 ⟨rfl, hb⟩; have hsz := hb.size; (try simp at hsz)) | (go_at_call 53; (with_reducible refine (fi3 _ _ _ (Row.nil _ _ _)).mono ?_); rintro e w1 ⟨rfl, hb⟩; have hsz := hb.size; (try simp at hsz)) | (go_at_call 53; (with_reducible refine (fi4 _ _ _ (Row.nil _ _ _)).mono ?_); rintro e w1 ⟨rfl, hb⟩; have hsz := hb.size; (try simp at hsz)) | (go_at_call 54; (with_reducible refine (co2 _).mono ?_); rintro e w1 ⟨rfl, hb⟩; have hsz := hb.size; (try simp at hsz)) | (go_at_call 54; (with_reducible refine (co3 _).mono ?_); rintro e w1 ⟨rfl, hb⟩; have hsz := hb.size; (try simp at hsz)) | (go_at_call 45; (with_reducible refine (kn_chk2 _).mono ?_); rintro e w1 ⟨rfl, hb⟩; have hsz := hb.size; (try simp at hsz)) | (go_at_call 47; (with_reducible refine (kn_com _).mono ?_); rintro e w1 ⟨rfl, hb⟩; have hsz := hb.size; (try simp at hsz)) | (go_at_call 43; (with_reducible refine (kn_near _).mono ?_); rintro e w1 ⟨rfl, hb⟩; have hsz := hb.size; (try simp at hsz)) | (go_at_call 49; (with_reducible refine (kn_rea1 _).mono ?_); rintro e w1 ⟨rfl, hb⟩; have hsz := hb.size; (try simp at hsz)) | (go_at_call 49; (with_reducible refine (kn_rea2 _).mono ?_); rintro e w1 ⟨rfl, hb⟩; have hsz := hb.size; (try simp at hsz)) | (go_at_call 51; (with_reducible refine (kn_four1 _).mono ?_); rintro e w1 ⟨rfl, hb⟩; have hsz := hb.size; (try simp at hsz)) | (go_at_call 51; (with_reducible refine (kn_four2 _).mono ?_); rintro e w1 ⟨rfl, hb⟩; have hsz := hb.size; (try simp at hsz)))
  repeat' (first | ((first | (refine wp_region_later2 HA (by first | exact Nat.le_refl _ | (simp; done) | (simp; omega)) (by kernel_rfl) (by kernel_rfl) ?_; intro hLC) | (refine wp_region_later1 (by kernel_rfl) (by kernel_rfl) ?_; intro hLC)); (repeat (go_big_quiet_step ((go_at_call 40; exact Calls.later_of (awake_t _))))); refine wpQuiet_nil ?_; intro w2 hb2; clear hLC; have hsz := hb2.size; (try simp at hsz); (first | (have hbl := blater2 HA (by first | exact Nat.le_refl _ | (simp; done) | (simp; omega)) hb2; obtain ⟨hcc, hff, HA, hne, hne'⟩ := hbl) | (obtain ⟨hcc, hff, HA, hne, hne'⟩ := blater1 hb2)); (try simp only [World.size_alloc, World.size_setCell] at HA); go_wp2_with (first | (go_at_call 40; refine (awake_t _).mono ?_; rintro e w1 ⟨rfl, hb⟩; have hsz := hb.size; (try simp at hsz)) | (go_at_call 53; (with_reducible refine (fi2 _ _ _ (row_1 _ _ _)).mono ?_); rintro e w1 ⟨rfl, hb⟩; have hsz := hb.size; (try simp at hsz)) | (go_at_call 53; (with_reducible refine (fi3 _ _ _ (Row.nil _ _ _)).mono ?_); rintro e w1 ⟨rfl, hb⟩; have hsz := hb.size; (try simp at hsz)) | (go_at_call 53; (with_reducible refine (fi4 _ _ _ (Row.nil _ _ _)).mono ?_); rintro e w1 ⟨rfl, hb⟩; have hsz := hb.size; (try simp at hsz)) | (go_at_call 54; (with_reducible refine (co2 _).mono ?_); rintro e w1 ⟨rfl, hb⟩; have hsz := hb.size; (try simp at hsz)) | (go_at_call 54; (with_reducible refine (co3 _).mono ?_); rintro e w1 ⟨rfl, hb⟩; have hsz := hb.size; (try simp at hsz)) | (go_at_call 45; (with_reducible refine (kn_chk2 _).mono ?_); rintro e w1 ⟨rfl, hb⟩; have hsz := hb.size; (try simp at hsz)) | (go_at_call 47; (with_reducible refine (kn_com _).mono ?_); rintro e w1 ⟨rfl, hb⟩; have hsz := hb.size; (try simp at hsz)) | (go_at_call 43; (with_reducible refine (kn_near _).mono ?_); rintro e w1 ⟨rfl, hb⟩; have hsz := hb.size; (try simp at hsz)) | (go_at_call 49; (with_reducible refine (kn_rea1 _).mono ?_); rintro e w1 ⟨rfl, hb⟩; have hsz := hb.size; (try simp at hsz)) | (go_at_call 49; (with_reducible refine (kn_rea2 _).mono ?_); rintro e w1 ⟨rfl, hb⟩; have hsz := hb.size; (try simp at hsz)) | (go_at_call 51; (with_reducible refine (kn_four1 _).mono ?_); rintro e w1 ⟨rfl, hb⟩; have hsz := hb.size; (try simp at hsz)) | (go_at_call 51; (with_reducible refine (kn_four2 _).mono ?_); rintro e w1 ⟨rfl, hb⟩; have hsz := hb.size; (try simp at hsz)))) | (go_region <;> go_wp2_with (first | (go_at_call 40; refine (awake_t _).mono ?_; rintro e w1 ⟨rfl, hb⟩; have hsz := hb.size; (try simp at hsz)) | (go_at_call 53; (with_reducible refine (fi2 _ _ _ (row_1 _ _ _)).mono ?_); rintro e w1 ⟨rfl, hb⟩; have hsz := hb.size; (try simp at hsz)) | (go_at_call 53; (with_reducible refine (fi3 _ _ _ (Row.nil _ _ _)).mono ?_); rintro e w1 ⟨rfl, hb⟩; have hsz := hb.size; (try simp at hsz)) | (go_at_call 53; (with_reducible refine (fi4 _ _ _ (Row.nil _ _ _)).mono ?_); rintro e w1 ⟨rfl, hb⟩; have hsz := hb.size; (try simp at hsz)) | (go_at_call 54; (with_reducible refine (co2 _).mono ?_); rintro e w1 ⟨rfl, hb⟩; have hsz := hb.size; (try simp at hsz)) | (go_at_call 54; (with_reducible refine (co3 _).mono ?_); rintro e w1 ⟨rfl, hb⟩; have hsz := hb.size; (try simp at hsz)) | (go_at_call 45; (with_reducible refine (kn_chk2 _).mono ?_); rintro e w1 ⟨rfl, hb⟩; have hsz := hb.size; (try simp at hsz)) | (go_at_call 47; (with_reducible refine (kn_com _).mono ?_); rintro e w1 ⟨rfl, hb⟩; have hsz := hb.size; (try simp at hsz)) | (go_at_call 43; (with_reducible refine (kn_near _).mono ?_); rintro e w1 ⟨rfl, hb⟩; have hsz := hb.size; (try simp at hsz)) | (go_at_call 49; (with_reducible refine (kn_rea1 _).mono ?_); rintro e w1 ⟨rfl, hb⟩; have hsz := hb.size; (try simp at hsz)) | (go_at_call 49; (with_reducible refine (kn_rea2 _).mono ?_); rintro e w1 ⟨rfl, hb⟩; have hsz := hb.size; (try simp at hsz)) | (go_at_call 51; (with_reducible refine (kn_four1 _).mono ?_); rintro e w1 ⟨rfl, hb⟩; have hsz := hb.size; (try simp at hsz)) | (go_at_call 51; (with_reducible refine (kn_four2 _).mono ?_); rintro e w1 ⟨rfl, hb⟩; have hsz := hb.size; (try simp at hsz)))))
  all_goals go_light
  all_goals (try simp only [beq_iff_eq, beq_eq_false_iff_ne, bne_iff_ne, bne_eq_false_iff_eq, ne_eq] at *)
  all_goals
    refine bodyPost_ret (v := .bool true) (by simp [results, Try.results11, go_sem, *]) rfl ⟨rfl, ?_⟩
    repeat' (first | exact Below.refl _ _ | refine Below.drew ?_ | refine below_drewN ?_ _ | refine Below.alloc ?_ (by first | omega | (simp <;> omega)) _ | refine Below.setCell ?_ (by first | omega | (simp <;> omega)) _ | refine Below.trans ?_ (Below.mono (by assumption) (by first | omega | (simp <;> omega))))

set_option maxHeartbeats 2000000 in
theorem windowCommon_w (s : ByteArray) (q p e l : Int) (w : World) (hs : s.size ≤ 9223372036854775807) : Calls Try.prog 10 #[.string s, .int .i64 q, .int .i64 p, .int .i64 e, .int .i64 l] w fun e w' => e = .returned (.bool true) ∧ Below w.heap.size w w' := by
  by_cases g1 : (300 : Int) < (s.size : Int)
  · skip
    go_enter Try.func10, Try.ntmps10
    go_wp2_with ((go_at_call 40; refine (awake_t _).mono ?_; rintro e w1 ⟨rfl, hb⟩; have hsz := hb.size; (try simp at hsz)))
    repeat' (first | (go_region <;> go_wp2_with ((go_at_call 40; refine (awake_t _).mono ?_; rintro e w1 ⟨rfl, hb⟩; have hsz := hb.size; (try simp at hsz)))))
    all_goals go_light
    all_goals (try simp only [beq_iff_eq, beq_eq_false_iff_ne, bne_iff_ne, bne_eq_false_iff_eq, ne_eq] at *)
    all_goals
      refine bodyPost_ret (v := .bool true) (by simp [results, Try.results10, go_sem, *]) rfl ⟨rfl, ?_⟩
      repeat' (first | exact Below.refl _ _ | refine Below.drew ?_ | refine below_drewN ?_ _ | refine Below.alloc ?_ (by first | omega | (simp <;> omega)) _ | refine Below.setCell ?_ (by first | omega | (simp <;> omega)) _ | refine Below.trans ?_ (Below.mono (by assumption) (by first | omega | (simp <;> omega))))
  · skip
    have q1 := fun w => wcommon_p s q p e w hs
    have q2 := fun w => rcommon_p s q p e w hs
    generalize wcom s q p e = A at q1 q2
    have q3 := fun w => wreach_p q l w
    have q4 := fun w => rreach_p q l w
    generalize wrea q l = B at q3 q4
    have q5 := fun w => wfour_p s p w hs
    have q6 := fun w => rfour_p s p w hs
    generalize wfour s p = C at q5 q6
    obtain ⟨A1, A2⟩ := A
    obtain ⟨B1, B2⟩ := B
    obtain ⟨C1, C2⟩ := C
    dsimp only at q1 q2 q3 q4 q5 q6
    go_enter Try.func10, Try.ntmps10
    go_wp2_with (first | (go_at_call 40; refine (awake_t _).mono ?_; rintro e w1 ⟨rfl, hb⟩; have hsz := hb.size; (try simp at hsz)) | (go_at_call 47; refine (q1 _).mono ?_; rintro e w1 ⟨rfl, hb⟩; have hsz := hb.size; (try simp at hsz)) | (go_at_call 48; refine (q2 _).mono ?_; rintro e w1 ⟨rfl, hb⟩; have hsz := hb.size; (try simp at hsz)) | (go_at_call 49; refine (q3 _).mono ?_; rintro e w1 ⟨rfl, hb⟩; have hsz := hb.size; (try simp at hsz)) | (go_at_call 50; refine (q4 _).mono ?_; rintro e w1 ⟨rfl, hb⟩; have hsz := hb.size; (try simp at hsz)) | (go_at_call 51; refine (q5 _).mono ?_; rintro e w1 ⟨rfl, hb⟩; have hsz := hb.size; (try simp at hsz)) | (go_at_call 52; refine (q6 _).mono ?_; rintro e w1 ⟨rfl, hb⟩; have hsz := hb.size; (try simp at hsz)))
    repeat' (first | ((first | (refine wp_region_later2 HA (by first | exact Nat.le_refl _ | (simp; done) | (simp; omega)) (by kernel_rfl) (by kernel_rfl) ?_; intro hLC) | (refine wp_region_later1 (by kernel_rfl) (by kernel_rfl) ?_; intro hLC)); (repeat (go_big_quiet_step ((go_at_call 40; exact Calls.later_of (awake_t _))))); refine wpQuiet_nil ?_; intro w2 hb2; clear hLC; have hsz := hb2.size; (try simp at hsz); (first | (have hbl := blater2 HA (by first | exact Nat.le_refl _ | (simp; done) | (simp; omega)) hb2; obtain ⟨hcc, hff, HA, hne, hne'⟩ := hbl) | (obtain ⟨hcc, hff, HA, hne, hne'⟩ := blater1 hb2)); (try simp only [World.size_alloc, World.size_setCell] at HA); go_wp2_with (first | (go_at_call 40; refine (awake_t _).mono ?_; rintro e w1 ⟨rfl, hb⟩; have hsz := hb.size; (try simp at hsz)) | (go_at_call 47; refine (q1 _).mono ?_; rintro e w1 ⟨rfl, hb⟩; have hsz := hb.size; (try simp at hsz)) | (go_at_call 48; refine (q2 _).mono ?_; rintro e w1 ⟨rfl, hb⟩; have hsz := hb.size; (try simp at hsz)) | (go_at_call 49; refine (q3 _).mono ?_; rintro e w1 ⟨rfl, hb⟩; have hsz := hb.size; (try simp at hsz)) | (go_at_call 50; refine (q4 _).mono ?_; rintro e w1 ⟨rfl, hb⟩; have hsz := hb.size; (try simp at hsz)) | (go_at_call 51; refine (q5 _).mono ?_; rintro e w1 ⟨rfl, hb⟩; have hsz := hb.size; (try simp at hsz)) | (go_at_call 52; refine (q6 _).mono ?_; rintro e w1 ⟨rfl, hb⟩; have hsz := hb.size; (try simp at hsz)))) | (go_region <;> go_wp2_with (first | (go_at_call 40; refine (awake_t _).mono ?_; rintro e w1 ⟨rfl, hb⟩; have hsz := hb.size; (try simp at hsz)) | (go_at_call 47; refine (q1 _).mono ?_; rintro e w1 ⟨rfl, hb⟩; have hsz := hb.size; (try simp at hsz)) | (go_at_call 48; refine (q2 _).mono ?_; rintro e w1 ⟨rfl, hb⟩; have hsz := hb.size; (try simp at hsz)) | (go_at_call 49; refine (q3 _).mono ?_; rintro e w1 ⟨rfl, hb⟩; have hsz := hb.size; (try simp at hsz)) | (go_at_call 50; refine (q4 _).mono ?_; rintro e w1 ⟨rfl, hb⟩; have hsz := hb.size; (try simp at hsz)) | (go_at_call 51; refine (q5 _).mono ?_; rintro e w1 ⟨rfl, hb⟩; have hsz := hb.size; (try simp at hsz)) | (go_at_call 52; refine (q6 _).mono ?_; rintro e w1 ⟨rfl, hb⟩; have hsz := hb.size; (try simp at hsz)))))
    all_goals go_light
    all_goals (try simp only [beq_iff_eq, beq_eq_false_iff_ne, bne_iff_ne, bne_eq_false_iff_eq, ne_eq] at *)
    all_goals
      refine bodyPost_ret (v := .bool true) (by simp [results, Try.results10, go_sem, *]) rfl ⟨rfl, ?_⟩
      repeat' (first | exact Below.refl _ _ | refine Below.drew ?_ | refine below_drewN ?_ _ | refine Below.alloc ?_ (by first | omega | (simp <;> omega)) _ | refine Below.setCell ?_ (by first | omega | (simp <;> omega)) _ | refine Below.trans ?_ (Below.mono (by assumption) (by first | omega | (simp <;> omega))))

theorem wcandR_len (s : ByteArray) (p e l m : Int) : (wcandR s p e l m).1.length ≤ 64 := by
  unfold wcandR
  split
  · split
    · unfold cands
      split
      · simp
      · simp only [List.length_take]
        omega
    · simp
  · simp
set_option maxHeartbeats 4000000 in
theorem windowFinds_w (s : ByteArray) (p e l m : Int) (w : World) (hs : s.size ≤ 9223372036854775807) : Calls Try.prog 9 #[.agg #[.string s, .int .i64 p, .int .i64 e, .int .i64 l, .int .i64 m]] w fun e w' => e = .returned (.bool true) ∧ Below w.heap.size w w' := by
  by_cases g1 : (300 : Int) < (s.size : Int)
  · skip
    go_enter Try.func9, Try.ntmps9
    go_wp2_with ((go_at_call 40; refine (awake_t _).mono ?_; rintro e w1 ⟨rfl, hb⟩; have hsz := hb.size; (try simp at hsz); (first | (have hbl := blater2 HA (by first | exact Nat.le_refl _ | (simp; done) | (simp; omega)) hb; obtain ⟨hcc, hff, HA, hne, hne'⟩ := hbl) | (obtain ⟨hcc, hff, HA, hne, hne'⟩ := blater1 hb)); (try simp only [World.size_alloc, World.size_setCell] at HA)))
    repeat' (first | (go_region <;> go_wp2_with ((go_at_call 40; refine (awake_t _).mono ?_; rintro e w1 ⟨rfl, hb⟩; have hsz := hb.size; (try simp at hsz); (first | (have hbl := blater2 HA (by first | exact Nat.le_refl _ | (simp; done) | (simp; omega)) hb; obtain ⟨hcc, hff, HA, hne, hne'⟩ := hbl) | (obtain ⟨hcc, hff, HA, hne, hne'⟩ := blater1 hb)); (try simp only [World.size_alloc, World.size_setCell] at HA)))))
    all_goals go_light
    all_goals (try simp only [beq_iff_eq, beq_eq_false_iff_ne, bne_iff_ne, bne_eq_false_iff_eq, ne_eq] at *)
    all_goals
      refine bodyPost_ret (v := .bool true) (by simp [results, Try.results9, go_sem, *]) rfl ⟨rfl, ?_⟩
      repeat' (first | exact Below.refl _ _ | refine Below.drew ?_ | refine below_drewN ?_ _ | refine Below.alloc ?_ (by first | omega | (simp <;> omega)) _ | refine Below.setCell ?_ (by first | omega | (simp <;> omega)) _ | refine Below.trans ?_ (Below.mono (by assumption) (by first | omega | (simp <;> omega))))
  · skip
    have q1 := fun w => cand_x s p e l m w hs _ _ rfl rfl
    have q2 := fun w => rcand_x s p e l m w hs _ _ rfl rfl
    have hxl : (nats (wcandR s p e l m).1).length ≤ 9223372036854775807 := by
      rw [nats_len]
      exact Nat.le_trans (wcandR_len s p e l m) (by decide)
    generalize nats (wcandR s p e l m).1 = xs at q1 q2 hxl
    generalize (wcandR s p e l m).2 = E at q1 q2
    have q3 := fun w => near_p s p e l w hs
    have q4 := fun w => rnear_p s p e l w hs
    generalize wnearR s p e l = B at q3 q4
    obtain ⟨B1, B2, B3⟩ := B
    have q5 := fun w => wcheck_p s p e l w hs
    have q6 := fun w => rwcheck_p s p e l w hs
    generalize wchk s.size p e l = C at q5 q6
    dsimp only at q1 q2 q3 q4 q5 q6
    go_enter Try.func9, Try.ntmps9
    go_wp2_with (first | (go_at_call 40; refine (awake_t _).mono ?_; rintro e w1 ⟨rfl, hb⟩; have hsz := hb.size; (try simp at hsz); (first | (have hbl := blater2 HA (by first | exact Nat.le_refl _ | (simp; done) | (simp; omega)) hb; obtain ⟨hcc, hff, HA, hne, hne'⟩ := hbl) | (obtain ⟨hcc, hff, HA, hne, hne'⟩ := blater1 hb)); (try simp only [World.size_alloc, World.size_setCell] at HA)) | (go_at_call 41; refine (q1 _).mono ?_; rintro e w1 ⟨pA, cA, hcA, rfl, hrA, hb⟩; have hsz := hb.size; (try simp at hsz); (first | (have hbl := blater2 HA (by first | exact Nat.le_refl _ | (simp; done) | (simp; omega)) hb; obtain ⟨hcc, hff, HA, hne, hne'⟩ := hbl) | (obtain ⟨hcc, hff, HA, hne, hne'⟩ := blater1 hb)); (try simp only [World.size_alloc, World.size_setCell] at HA)) | (go_at_call 42; refine (q2 _).mono ?_; rintro e w1 ⟨pB, cB, hcB, rfl, hrB, hb⟩; have hsz := hb.size; (try simp at hsz); (first | (have hbl := blater2 HA (by first | exact Nat.le_refl _ | (simp; done) | (simp; omega)) hb; obtain ⟨hcc, hff, HA, hne, hne'⟩ := hbl) | (obtain ⟨hcc, hff, HA, hne, hne'⟩ := blater1 hb)); (try simp only [World.size_alloc, World.size_setCell] at HA); replace hrA := Row.later hrA hb) | (go_at_call 43; refine (q3 _).mono ?_; rintro e w1 ⟨rfl, hb⟩; have hsz := hb.size; (try simp at hsz); (first | (have hbl := blater2 HA (by first | exact Nat.le_refl _ | (simp; done) | (simp; omega)) hb; obtain ⟨hcc, hff, HA, hne, hne'⟩ := hbl) | (obtain ⟨hcc, hff, HA, hne, hne'⟩ := blater1 hb)); (try simp only [World.size_alloc, World.size_setCell] at HA); (try (replace hrA := Row.later hrA hb)); (try (replace hrB := Row.later hrB hb))) | (go_at_call 44; refine (q4 _).mono ?_; rintro e w1 ⟨rfl, hb⟩; have hsz := hb.size; (try simp at hsz); (first | (have hbl := blater2 HA (by first | exact Nat.le_refl _ | (simp; done) | (simp; omega)) hb; obtain ⟨hcc, hff, HA, hne, hne'⟩ := hbl) | (obtain ⟨hcc, hff, HA, hne, hne'⟩ := blater1 hb)); (try simp only [World.size_alloc, World.size_setCell] at HA); (try (replace hrA := Row.later hrA hb)); (try (replace hrB := Row.later hrB hb))))
    repeat' (first | ((first | (refine wp_region_later2 HA (by first | exact Nat.le_refl _ | (simp; done) | (simp; omega)) (by kernel_rfl) (by kernel_rfl) ?_; intro hLC) | (refine wp_region_later1 (by kernel_rfl) (by kernel_rfl) ?_; intro hLC)); (repeat (go_big_quiet_step (first | (go_at_call 40; exact Calls.later_of (awake_t _)) | (go_at_call 45; exact Calls.later_of (q5 _)) | (go_at_call 46; exact Calls.later_of (q6 _)) | (go_at_call 32; exact Calls.later_of (kn_same _ _ xs _ _ _ _ hrA.laterOf hrB.laterOf rfl hxl))))); refine wpQuiet_nil ?_; intro w2 hb2; clear hLC; have hsz := hb2.size; (try simp at hsz); (first | (have hbl := blater2 HA (by first | exact Nat.le_refl _ | (simp; done) | (simp; omega)) hb2; obtain ⟨hcc, hff, HA, hne, hne'⟩ := hbl) | (obtain ⟨hcc, hff, HA, hne, hne'⟩ := blater1 hb2)); (try simp only [World.size_alloc, World.size_setCell] at HA); go_wp2_with (first | (go_at_call 40; refine (awake_t _).mono ?_; rintro e w1 ⟨rfl, hb⟩; have hsz := hb.size; (try simp at hsz); (first | (have hbl := blater2 HA (by first | exact Nat.le_refl _ | (simp; done) | (simp; omega)) hb; obtain ⟨hcc, hff, HA, hne, hne'⟩ := hbl) | (obtain ⟨hcc, hff, HA, hne, hne'⟩ := blater1 hb)); (try simp only [World.size_alloc, World.size_setCell] at HA)) | (go_at_call 41; refine (q1 _).mono ?_; rintro e w1 ⟨pA, cA, hcA, rfl, hrA, hb⟩; have hsz := hb.size; (try simp at hsz); (first | (have hbl := blater2 HA (by first | exact Nat.le_refl _ | (simp; done) | (simp; omega)) hb; obtain ⟨hcc, hff, HA, hne, hne'⟩ := hbl) | (obtain ⟨hcc, hff, HA, hne, hne'⟩ := blater1 hb)); (try simp only [World.size_alloc, World.size_setCell] at HA)) | (go_at_call 42; refine (q2 _).mono ?_; rintro e w1 ⟨pB, cB, hcB, rfl, hrB, hb⟩; have hsz := hb.size; (try simp at hsz); (first | (have hbl := blater2 HA (by first | exact Nat.le_refl _ | (simp; done) | (simp; omega)) hb; obtain ⟨hcc, hff, HA, hne, hne'⟩ := hbl) | (obtain ⟨hcc, hff, HA, hne, hne'⟩ := blater1 hb)); (try simp only [World.size_alloc, World.size_setCell] at HA); replace hrA := Row.later hrA hb) | (go_at_call 43; refine (q3 _).mono ?_; rintro e w1 ⟨rfl, hb⟩; have hsz := hb.size; (try simp at hsz); (first | (have hbl := blater2 HA (by first | exact Nat.le_refl _ | (simp; done) | (simp; omega)) hb; obtain ⟨hcc, hff, HA, hne, hne'⟩ := hbl) | (obtain ⟨hcc, hff, HA, hne, hne'⟩ := blater1 hb)); (try simp only [World.size_alloc, World.size_setCell] at HA); (try (replace hrA := Row.later hrA hb)); (try (replace hrB := Row.later hrB hb))) | (go_at_call 44; refine (q4 _).mono ?_; rintro e w1 ⟨rfl, hb⟩; have hsz := hb.size; (try simp at hsz); (first | (have hbl := blater2 HA (by first | exact Nat.le_refl _ | (simp; done) | (simp; omega)) hb; obtain ⟨hcc, hff, HA, hne, hne'⟩ := hbl) | (obtain ⟨hcc, hff, HA, hne, hne'⟩ := blater1 hb)); (try simp only [World.size_alloc, World.size_setCell] at HA); (try (replace hrA := Row.later hrA hb)); (try (replace hrB := Row.later hrB hb))))) | (go_region <;> go_wp2_with (first | (go_at_call 40; refine (awake_t _).mono ?_; rintro e w1 ⟨rfl, hb⟩; have hsz := hb.size; (try simp at hsz); (first | (have hbl := blater2 HA (by first | exact Nat.le_refl _ | (simp; done) | (simp; omega)) hb; obtain ⟨hcc, hff, HA, hne, hne'⟩ := hbl) | (obtain ⟨hcc, hff, HA, hne, hne'⟩ := blater1 hb)); (try simp only [World.size_alloc, World.size_setCell] at HA)) | (go_at_call 41; refine (q1 _).mono ?_; rintro e w1 ⟨pA, cA, hcA, rfl, hrA, hb⟩; have hsz := hb.size; (try simp at hsz); (first | (have hbl := blater2 HA (by first | exact Nat.le_refl _ | (simp; done) | (simp; omega)) hb; obtain ⟨hcc, hff, HA, hne, hne'⟩ := hbl) | (obtain ⟨hcc, hff, HA, hne, hne'⟩ := blater1 hb)); (try simp only [World.size_alloc, World.size_setCell] at HA)) | (go_at_call 42; refine (q2 _).mono ?_; rintro e w1 ⟨pB, cB, hcB, rfl, hrB, hb⟩; have hsz := hb.size; (try simp at hsz); (first | (have hbl := blater2 HA (by first | exact Nat.le_refl _ | (simp; done) | (simp; omega)) hb; obtain ⟨hcc, hff, HA, hne, hne'⟩ := hbl) | (obtain ⟨hcc, hff, HA, hne, hne'⟩ := blater1 hb)); (try simp only [World.size_alloc, World.size_setCell] at HA); replace hrA := Row.later hrA hb) | (go_at_call 43; refine (q3 _).mono ?_; rintro e w1 ⟨rfl, hb⟩; have hsz := hb.size; (try simp at hsz); (first | (have hbl := blater2 HA (by first | exact Nat.le_refl _ | (simp; done) | (simp; omega)) hb; obtain ⟨hcc, hff, HA, hne, hne'⟩ := hbl) | (obtain ⟨hcc, hff, HA, hne, hne'⟩ := blater1 hb)); (try simp only [World.size_alloc, World.size_setCell] at HA); (try (replace hrA := Row.later hrA hb)); (try (replace hrB := Row.later hrB hb))) | (go_at_call 44; refine (q4 _).mono ?_; rintro e w1 ⟨rfl, hb⟩; have hsz := hb.size; (try simp at hsz); (first | (have hbl := blater2 HA (by first | exact Nat.le_refl _ | (simp; done) | (simp; omega)) hb; obtain ⟨hcc, hff, HA, hne, hne'⟩ := hbl) | (obtain ⟨hcc, hff, HA, hne, hne'⟩ := blater1 hb)); (try simp only [World.size_alloc, World.size_setCell] at HA); (try (replace hrA := Row.later hrA hb)); (try (replace hrB := Row.later hrB hb))))))
    all_goals go_light
    all_goals (try simp only [beq_iff_eq, beq_eq_false_iff_ne, bne_iff_ne, bne_eq_false_iff_eq, ne_eq] at *)
    all_goals
      refine bodyPost_ret (v := .bool true) (by simp [results, Try.results9, go_sem, *]) rfl ⟨rfl, ?_⟩
      repeat' (first | exact Below.refl _ _ | refine Below.drew ?_ | refine below_drewN ?_ _ | refine Below.alloc ?_ (by first | omega | (simp <;> omega)) _ | refine Below.setCell ?_ (by first | omega | (simp <;> omega)) _ | refine Below.trans ?_ (Below.mono (by assumption) (by first | omega | (simp <;> omega))))
end Go.Proofs.Ytenhglamnpmkaaa
