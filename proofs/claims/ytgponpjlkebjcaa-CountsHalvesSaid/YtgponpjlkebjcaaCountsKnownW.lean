/-
  CountsKnown, walked.
-/
import Derived.Test.YtgponpjlkebjcaaRows
import Derived.Test.YtgponpjlkebjcaaCountsLaw
import Derived.Test.YtgponpjlkebjcaaCommon
import Derived.Deep.Light
import Derived.Shelf.Abstract
import Derived.Shelf.RegionOpen
import Derived.OwnWalkIn
import Derived.TacticsInMore
import Derived.LoopNIn
import Derived.LoopIn
namespace Go.Proofs.Ytgponpjlkebjcaa
open Go.RowKit
set_option linter.unusedSimpArgs false
set_option linter.unusedVariables false
attribute [local go_sem] Oper.semAt_some

theorem only_t (a : Option Addr) (xs : List Int) (cap : Nat) (want : Int) (is : Bool) (w : World) (ha : Row .i64 w a xs) (hl : xs.length ≤ 9223372036854775807) (h : rOnly xs = (want, is, 0)) :
    Calls Try.prog 40 #[.slice a xs.length cap, .int .i64 want, .bool is] w fun e w' => e = .returned (.bool true) ∧ Below w.heap.size w w' := by
  have q := only_p a xs cap w ha hl
  rw [h] at q
  clear h
  go_enter Try.func40, Try.ntmps40
  go_wp2_with ((go_at_call 33; refine (q).mono ?_; rintro e w1 ⟨rfl, hb⟩; have hsz := hb.size; (try simp at hsz)))
  repeat' (first | (go_region <;> go_wp2_with ((go_at_call 33; refine (q).mono ?_; rintro e w1 ⟨rfl, hb⟩; have hsz := hb.size; (try simp at hsz)))))
  all_goals go_light
  all_goals (try simp only [beq_iff_eq, beq_eq_false_iff_ne, bne_iff_ne, bne_eq_false_iff_eq, ne_eq] at *)
  all_goals
    refine bodyPost_ret (v := .bool true) (by simp [results, Try.results40, go_sem, *]) rfl ⟨rfl, ?_⟩
    repeat' (first | exact Below.refl _ _ | refine Below.drew ?_ | refine below_drewN ?_ _ | refine Below.alloc ?_ (by first | omega | (simp <;> omega)) _ | refine Below.setCell ?_ (by first | omega | (simp <;> omega)) _ | refine Below.trans ?_ (Below.mono (by assumption) (by first | omega | (simp <;> omega))))
theorem row_new2 (x0 x1 : Int) (w : World) (t : TypeId) : Row .i64 (w.alloc (.cells #[.int .i64 x0, .int .i64 x1] t)) (some ⟨w.heap.size, 0, none⟩) [x0, x1] := Row.of_block (heap_alloc_new _ _) rfl
theorem rowb_new2 (x0 x1 : Bool) (w : World) (t : TypeId) : RowB (w.alloc (.cells #[.bool x0, .bool x1] t)) (some ⟨w.heap.size, 0, none⟩) [x0, x1] := RowB.of_block (heap_alloc_new _ _) rfl
theorem rowb_new5 (x0 x1 x2 x3 x4 : Bool) (w : World) (t : TypeId) : RowB (w.alloc (.cells #[.bool x0, .bool x1, .bool x2, .bool x3, .bool x4] t)) (some ⟨w.heap.size, 0, none⟩) [x0, x1, x2, x3, x4] := RowB.of_block (heap_alloc_new _ _) rfl
theorem kn_only1 (a : Option Addr) (cap : Nat) (w : World) (h : Row .i64 w a [0, 3, 0, 3, 1]) : Calls Try.prog 40 #[.slice a 5 cap, .int .i64 0, .bool false] w fun e w' => e = .returned (.bool true) ∧ Below w.heap.size w w' :=
  only_t a [0, 3, 0, 3, 1] cap 0 false w h (by decide) (by decide)
theorem kn_only2 (a : Option Addr) (cap : Nat) (w : World) (h : Row .i64 w a [0, 5]) : Calls Try.prog 40 #[.slice a 2 cap, .int .i64 1, .bool true] w fun e w' => e = .returned (.bool true) ∧ Below w.heap.size w w' :=
  only_t a [0, 5] cap 1 true w h (by decide) (by decide)
theorem kn_only3 (a : Option Addr) (cap : Nat) (w : World) (h : Row .i64 w a [0, 0]) : Calls Try.prog 40 #[.slice a 2 cap, .int .i64 0, .bool false] w fun e w' => e = .returned (.bool true) ∧ Below w.heap.size w w' :=
  only_t a [0, 0] cap 0 false w h (by decide) (by decide)
theorem kn_cov1 (a b : Option Addr) (cap capb : Nat) (w : World) (h : Row .i64 w a [0, 3, 0, 3, 1]) (h2 : RowB w b [false, true, false, true, true]) : Calls Try.prog 35 #[.slice a 5 cap, .slice b 5 capb] w fun e w' => e = .returned (.tuple #[.bool true, .int .i64 0]) ∧ Below w.heap.size w w' := by
  have e : rCov [0, 3, 0, 3, 1] [false, true, false, true, true] = (true, 0) := by decide
  have := covers_p a b [0, 3, 0, 3, 1] [false, true, false, true, true] cap capb w h h2 (by decide) (by decide)
  rw [e] at this
  exact this
theorem kn_cov2 (a b : Option Addr) (cap capb : Nat) (w : World) (h : Row .i64 w a [0, 3, 0, 3, 1]) (h2 : RowB w b [false, true]) : Calls Try.prog 35 #[.slice a 5 cap, .slice b 2 capb] w fun e w' => e = .returned (.tuple #[.bool false, .int .i64 0]) ∧ Below w.heap.size w w' := by
  have e : rCov [0, 3, 0, 3, 1] [false, true] = (false, 0) := by decide
  have := covers_p a b [0, 3, 0, 3, 1] [false, true] cap capb w h h2 (by decide) (by decide)
  rw [e] at this
  exact this
theorem kn_full (w : World) (a : Option Addr) (cap : Nat) (h : Row .i64 w a (List.replicate 257 0)) : Calls Try.prog 23 #[.slice a 257 cap] w fun e w' => e = .returned (.int .i64 6) ∧ Below w.heap.size w w' := by
  have e : (List.replicate 257 (0 : Int)).length = 257 := List.length_replicate
  have := check_c a (List.replicate 257 0) cap w h (by rw [e]; decide)
  rw [cchk_full (by rw [e]; decide), e] at this
  exact this
theorem kn_same1 (w : World) : Calls Try.prog 21 #[.string ⟨#[97, 97]⟩] w fun e w' => e = .returned (.bool true) ∧ Below w.heap.size w w' := same_p ⟨#[97, 97]⟩ w (by decide)
theorem kn_same2 (w : World) : Calls Try.prog 21 #[.string ⟨#[]⟩] w fun e w' => e = .returned (.bool false) ∧ Below w.heap.size w w' := same_p ⟨#[]⟩ w (by decide)
set_option maxRecDepth 100000 in
set_option maxHeartbeats 4000000 in
theorem countsKnown_w (w : World) : Calls Try.prog 5 #[] w fun e w' => e = .returned (.bool true) ∧ Below w.heap.size w w' := by
  have hmk : ∀ W, (Instr.makeSlice 22 (.int .i64 257) (.int .i64 257)).run Try.prog W = _ := fun W => mk_ints 257 (by omega) W
  go_enter Try.func5, Try.ntmps5
  go_wp2_with (first | (go_at_call 39; refine (c_t _).mono ?_; rintro e w1 ⟨B, rfl, hrow, hb⟩; have hsz := hb.size; (try simp at hsz)) | (go_at_call 14; refine (awake_t _).mono ?_; rintro e w1 ⟨rfl, hb⟩; have hsz := hb.size; (try simp at hsz)) | (go_at_call 27; refine (kn_distinct _ _ _ hrow.out).mono ?_; rintro e w1 ⟨rfl, hb⟩; have hsz := hb.size; (try simp at hsz)) | (go_at_call 29; refine (kn_last _ _ _ hrow.out).mono ?_; rintro e w1 ⟨rfl, hb⟩; have hsz := hb.size; (try simp at hsz)) | (go_at_call 31; refine (kn_greatest0 _ _ _ (.inl rfl)).mono ?_; rintro e w1 ⟨rfl, hb⟩; have hsz := hb.size; (try simp at hsz)) | (go_at_call 40; with_reducible refine (kn_only1 _ _ _ hrow.out).mono ?_; rintro e w1 ⟨rfl, hb⟩; have hsz := hb.size; (try simp at hsz)) | (go_at_call 40; with_reducible refine (kn_only2 _ _ _ (row_new2 _ _ _ _)).mono ?_; rintro e w1 ⟨rfl, hb⟩; have hsz := hb.size; (try simp at hsz)) | (go_at_call 40; with_reducible refine (kn_only3 _ _ _ (row_new2 _ _ _ _)).mono ?_; rintro e w1 ⟨rfl, hb⟩; have hsz := hb.size; (try simp at hsz)) | (go_at_call 35; with_reducible refine (kn_cov1 _ _ _ _ _ (hrow.out.later (by repeat' (first | exact Below.refl _ _ | refine Below.drew ?_ | refine below_drewN ?_ _ | refine Below.alloc ?_ (by first | omega | (simp <;> omega)) _ | refine Below.setCell ?_ (by first | omega | (simp <;> omega)) _ | refine Below.trans ?_ (Below.mono (by assumption) (by first | omega | (simp <;> omega)))))) (rowb_new5 _ _ _ _ _ _ _)).mono ?_; rintro e w1 ⟨rfl, hb⟩; have hsz := hb.size; (try simp at hsz)) | (go_at_call 35; with_reducible refine (kn_cov2 _ _ _ _ _ (hrow.out.later (by repeat' (first | exact Below.refl _ _ | refine Below.drew ?_ | refine below_drewN ?_ _ | refine Below.alloc ?_ (by first | omega | (simp <;> omega)) _ | refine Below.setCell ?_ (by first | omega | (simp <;> omega)) _ | refine Below.trans ?_ (Below.mono (by assumption) (by first | omega | (simp <;> omega)))))) (rowb_new2 _ _ _ _)).mono ?_; rintro e w1 ⟨rfl, hb⟩; have hsz := hb.size; (try simp at hsz)) | (go_at_call 37; refine (kn_halve _ _ _ hrow.out).mono ?_; rintro e w1 ⟨pH, cH, rfl, hrH, hb⟩; have hsz := hb.size; (try simp at hsz)) | (go_at_call 18; refine (kn_symbols2 _ _ _ (Row.of_block (heap_alloc_new _ _) rfl)).mono ?_; rintro e w1 ⟨pS, cS', rfl, hrS, hb⟩; have hsz := hb.size; (try simp at hsz)) | (go_at_call 20; refine (kn_same _ _ [0, 2, 0, 2, 1] _ _ _ _ (hrH.out.later (by repeat' (first | exact Below.refl _ _ | refine Below.drew ?_ | refine below_drewN ?_ _ | refine Below.alloc ?_ (by first | omega | (simp <;> omega)) _ | refine Below.setCell ?_ (by first | omega | (simp <;> omega)) _ | refine Below.trans ?_ (Below.mono (by assumption) (by first | omega | (simp <;> omega)))))) (Row.of_block (heap_alloc_new _ _) rfl) rfl (by decide)).mono ?_; rintro e w1 ⟨rfl, hb⟩; have hsz := hb.size; (try simp at hsz)) | (go_at_call 23; refine (kn_full _ _ _ (Blk.row (Arr.made _ 257))).mono ?_; rintro e w1 ⟨rfl, hb⟩; have hsz := hb.size; (try simp at hsz)) | (go_at_call 21; with_reducible refine (kn_same1 _).mono ?_; rintro e w1 ⟨rfl, hb⟩; have hsz := hb.size; (try simp at hsz)) | (go_at_call 21; with_reducible refine (kn_same2 _).mono ?_; rintro e w1 ⟨rfl, hb⟩; have hsz := hb.size; (try simp at hsz)))
  repeat' (first | (go_region <;> go_wp2_with (first | (go_at_call 39; refine (c_t _).mono ?_; rintro e w1 ⟨B, rfl, hrow, hb⟩; have hsz := hb.size; (try simp at hsz)) | (go_at_call 14; refine (awake_t _).mono ?_; rintro e w1 ⟨rfl, hb⟩; have hsz := hb.size; (try simp at hsz)) | (go_at_call 27; refine (kn_distinct _ _ _ hrow.out).mono ?_; rintro e w1 ⟨rfl, hb⟩; have hsz := hb.size; (try simp at hsz)) | (go_at_call 29; refine (kn_last _ _ _ hrow.out).mono ?_; rintro e w1 ⟨rfl, hb⟩; have hsz := hb.size; (try simp at hsz)) | (go_at_call 31; refine (kn_greatest0 _ _ _ (.inl rfl)).mono ?_; rintro e w1 ⟨rfl, hb⟩; have hsz := hb.size; (try simp at hsz)) | (go_at_call 40; with_reducible refine (kn_only1 _ _ _ hrow.out).mono ?_; rintro e w1 ⟨rfl, hb⟩; have hsz := hb.size; (try simp at hsz)) | (go_at_call 40; with_reducible refine (kn_only2 _ _ _ (row_new2 _ _ _ _)).mono ?_; rintro e w1 ⟨rfl, hb⟩; have hsz := hb.size; (try simp at hsz)) | (go_at_call 40; with_reducible refine (kn_only3 _ _ _ (row_new2 _ _ _ _)).mono ?_; rintro e w1 ⟨rfl, hb⟩; have hsz := hb.size; (try simp at hsz)) | (go_at_call 35; with_reducible refine (kn_cov1 _ _ _ _ _ (hrow.out.later (by repeat' (first | exact Below.refl _ _ | refine Below.drew ?_ | refine below_drewN ?_ _ | refine Below.alloc ?_ (by first | omega | (simp <;> omega)) _ | refine Below.setCell ?_ (by first | omega | (simp <;> omega)) _ | refine Below.trans ?_ (Below.mono (by assumption) (by first | omega | (simp <;> omega)))))) (rowb_new5 _ _ _ _ _ _ _)).mono ?_; rintro e w1 ⟨rfl, hb⟩; have hsz := hb.size; (try simp at hsz)) | (go_at_call 35; with_reducible refine (kn_cov2 _ _ _ _ _ (hrow.out.later (by repeat' (first | exact Below.refl _ _ | refine Below.drew ?_ | refine below_drewN ?_ _ | refine Below.alloc ?_ (by first | omega | (simp <;> omega)) _ | refine Below.setCell ?_ (by first | omega | (simp <;> omega)) _ | refine Below.trans ?_ (Below.mono (by assumption) (by first | omega | (simp <;> omega)))))) (rowb_new2 _ _ _ _)).mono ?_; rintro e w1 ⟨rfl, hb⟩; have hsz := hb.size; (try simp at hsz)) | (go_at_call 37; refine (kn_halve _ _ _ hrow.out).mono ?_; rintro e w1 ⟨pH, cH, rfl, hrH, hb⟩; have hsz := hb.size; (try simp at hsz)) | (go_at_call 18; refine (kn_symbols2 _ _ _ (Row.of_block (heap_alloc_new _ _) rfl)).mono ?_; rintro e w1 ⟨pS, cS', rfl, hrS, hb⟩; have hsz := hb.size; (try simp at hsz)) | (go_at_call 20; refine (kn_same _ _ [0, 2, 0, 2, 1] _ _ _ _ (hrH.out.later (by repeat' (first | exact Below.refl _ _ | refine Below.drew ?_ | refine below_drewN ?_ _ | refine Below.alloc ?_ (by first | omega | (simp <;> omega)) _ | refine Below.setCell ?_ (by first | omega | (simp <;> omega)) _ | refine Below.trans ?_ (Below.mono (by assumption) (by first | omega | (simp <;> omega)))))) (Row.of_block (heap_alloc_new _ _) rfl) rfl (by decide)).mono ?_; rintro e w1 ⟨rfl, hb⟩; have hsz := hb.size; (try simp at hsz)) | (go_at_call 23; refine (kn_full _ _ _ (Blk.row (Arr.made _ 257))).mono ?_; rintro e w1 ⟨rfl, hb⟩; have hsz := hb.size; (try simp at hsz)) | (go_at_call 21; with_reducible refine (kn_same1 _).mono ?_; rintro e w1 ⟨rfl, hb⟩; have hsz := hb.size; (try simp at hsz)) | (go_at_call 21; with_reducible refine (kn_same2 _).mono ?_; rintro e w1 ⟨rfl, hb⟩; have hsz := hb.size; (try simp at hsz)))))
  all_goals go_light
  all_goals (try simp only [beq_iff_eq, beq_eq_false_iff_ne, bne_iff_ne, bne_eq_false_iff_eq, ne_eq] at *)
  all_goals
    refine bodyPost_ret (v := .bool true) (by simp [results, Try.results5, go_sem, *]) rfl ⟨rfl, ?_⟩
    repeat' (first | exact Below.refl _ _ | refine Below.drew ?_ | refine below_drewN ?_ _ | refine Below.alloc ?_ (by first | omega | (simp <;> omega)) _ | refine Below.setCell ?_ (by first | omega | (simp <;> omega)) _ | refine Below.trans ?_ (Below.mono (by assumption) (by first | omega | (simp <;> omega))))
end Go.Proofs.Ytgponpjlkebjcaa
