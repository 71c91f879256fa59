/-
  The statements' helpers on distributions, NormSums, walked.
-/
import Derived.Test.YtgponpjlkebjcaaRows
import Derived.Test.YtgponpjlkebjcaaNorm7
import Derived.Test.YtgponpjlkebjcaaKnSame
import Derived.Test.YtgponpjlkebjcaaCommon
import Derived.Deep.Light
import Derived.Shelf.Abstract
import Derived.Shelf.RegionOpen
import Derived.OwnWalkIn
import Derived.TacticsInMore
import Derived.LoopNIn
import Derived.LoopIn
import Derived.Outline
namespace Go.Proofs.Ytgponpjlkebjcaa
open Go.RowKit
set_option linter.unusedSimpArgs false
set_option linter.unusedVariables false
attribute [local go_sem] Oper.semAt_some
theorem row_c1 {w : World} {b : Nat} {x0 : Int} (hb : b < w.heap.size) (h0 : w.cell? ⟨b, 0, none⟩ = some (.int .i64 x0)) : Row .i64 w (some ⟨b, 0, none⟩) [x0] := by
  refine .inr ⟨b, 0, rfl, hb, fun i hi => ?_⟩
  simp only [List.length_cons, List.length_nil] at hi
  rw [Nat.zero_add]
  rcases i with _ | i
  · exact h0
  · omega
theorem row_c2 {w : World} {b : Nat} {x0 x1 : Int} (hb : b < w.heap.size) (h0 : w.cell? ⟨b, 0, none⟩ = some (.int .i64 x0)) (h1 : w.cell? ⟨b, 1, none⟩ = some (.int .i64 x1)) : Row .i64 w (some ⟨b, 0, none⟩) [x0, x1] := by
  refine .inr ⟨b, 0, rfl, hb, fun i hi => ?_⟩
  simp only [List.length_cons, List.length_nil] at hi
  rw [Nat.zero_add]
  rcases i with _ | _ | i
  · exact h0
  · exact h1
  · omega
theorem row_c3 {w : World} {b : Nat} {x0 x1 x2 : Int} (hb : b < w.heap.size) (h0 : w.cell? ⟨b, 0, none⟩ = some (.int .i64 x0)) (h1 : w.cell? ⟨b, 1, none⟩ = some (.int .i64 x1)) (h2 : w.cell? ⟨b, 2, none⟩ = some (.int .i64 x2)) : Row .i64 w (some ⟨b, 0, none⟩) [x0, x1, x2] := by
  refine .inr ⟨b, 0, rfl, hb, fun i hi => ?_⟩
  simp only [List.length_cons, List.length_nil] at hi
  rw [Nat.zero_add]
  rcases i with _ | _ | _ | i
  · exact h0
  · exact h1
  · exact h2
  · omega
theorem row_c4 {w : World} {b : Nat} {x0 x1 x2 x3 : Int} (hb : b < w.heap.size) (h0 : w.cell? ⟨b, 0, none⟩ = some (.int .i64 x0)) (h1 : w.cell? ⟨b, 1, none⟩ = some (.int .i64 x1)) (h2 : w.cell? ⟨b, 2, none⟩ = some (.int .i64 x2)) (h3 : w.cell? ⟨b, 3, none⟩ = some (.int .i64 x3)) : Row .i64 w (some ⟨b, 0, none⟩) [x0, x1, x2, x3] := by
  refine .inr ⟨b, 0, rfl, hb, fun i hi => ?_⟩
  simp only [List.length_cons, List.length_nil] at hi
  rw [Nat.zero_add]
  rcases i with _ | _ | _ | _ | i
  · exact h0
  · exact h1
  · exact h2
  · exact h3
  · omega
theorem row_later {k : IntKind} {w w' : World} {a : Option Addr} {xs : List Int} (h : Row k w a xs) (hb : Below w.heap.size w w') : Row k w' a xs := h.later hb

theorem of_x (a : Option Addr) (xs : List Int) (n cap : Nat) (most : Int) (w : World) (hn : n = xs.length) (ha : Row .i64 w a xs) (hl : n ≤ 9223372036854775807) (l : Int) (ps : List Int) (m : Nat) (E : Int) (h : rOf xs most = ((l, ps), E)) (hm : m = ps.length) :
    Calls Try.prog 45 #[.slice a n cap, .int .i64 most] w fun e w' => ∃ pa ca, e = .returned (.tuple #[.agg #[.int .i64 l, .slice pa m ca], .int .i64 E]) ∧ Row .i64 w' pa ps ∧ Below w.heap.size w w' := by
  subst hn hm
  have := of_p a xs cap most w ha hl
  rw [h] at this
  refine this.mono ?_
  rintro e w' ⟨pa, ca, h1, _, h3, h4⟩
  exact ⟨pa, ca, h1, h3, h4⟩

theorem with_x (a : Option Addr) (xs : List Int) (n cap : Nat) (most : Int) (w : World) (hn : n = xs.length) (ha : Row .i64 w a xs) (hl : n ≤ 9223372036854775807) (l : Int) (ps : List Int) (m : Nat) (E : Int) (h : rWith xs most = ((l, ps), E)) (hm : m = ps.length) :
    Calls Try.prog 48 #[.slice a n cap, .int .i64 most] w fun e w' => ∃ pa ca, e = .returned (.tuple #[.agg #[.int .i64 l, .slice pa m ca], .int .i64 E]) ∧ Row .i64 w' pa ps ∧ Below w.heap.size w w' := by
  subst hn hm
  have := with_p a xs cap most w ha hl
  rw [h] at this
  refine this.mono ?_
  rintro e w' ⟨pa, ca, h1, _, h3, h4⟩
  exact ⟨pa, ca, h1, h3, h4⟩

theorem gives_t (a b : Option Addr) (xs ps : List Int) (n cap m capb : Nat) (most l : Int) (w : World) (hn : n = xs.length) (hm : m = ps.length) (ha : Row .i64 w a xs) (hb0 : Row .i64 w b ps) (hl : n ≤ 9223372036854775807) (hl2 : m ≤ 9223372036854775807) (h : rOf xs most = ((l, ps), 0)) :
    Calls Try.prog 58 #[.slice a n cap, .int .i64 most, .int .i64 l, .slice b m capb] w fun e w' => e = .returned (.bool true) ∧ Below w.heap.size w w' := by
  have q1 := fun w h2 => of_x a xs n cap most w hn h2 hl l ps m 0 h hm
  have HM := Lib.hid hm
  clear h hn hm
  go_enter Try.func58, Try.ntmps58
  go_wp2_with (first | (go_at_call 45; refine (q1 _ (ha.later (by repeat' (first | exact Below.refl _ _ | refine Below.drew ?_ | refine below_drewN ?_ _ | refine Below.alloc ?_ (by first | omega | (simp <;> omega)) _ | refine Below.setCell ?_ (by first | omega | (simp <;> omega)) _ | refine Below.trans ?_ (Below.mono (by assumption) (by first | omega | (simp <;> omega))))))).mono ?_; rintro e w1 ⟨pA, cA, rfl, hrA, hb⟩; have hsz := hb.size; (try simp at hsz)) | (go_at_call 20; refine (kn_same _ _ ps _ _ _ _ (hrA.later (by repeat' (first | exact Below.refl _ _ | refine Below.drew ?_ | refine below_drewN ?_ _ | refine Below.alloc ?_ (by first | omega | (simp <;> omega)) _ | refine Below.setCell ?_ (by first | omega | (simp <;> omega)) _ | refine Below.trans ?_ (Below.mono (by assumption) (by first | omega | (simp <;> omega)))))) (hb0.later (by repeat' (first | exact Below.refl _ _ | refine Below.drew ?_ | refine below_drewN ?_ _ | refine Below.alloc ?_ (by first | omega | (simp <;> omega)) _ | refine Below.setCell ?_ (by first | omega | (simp <;> omega)) _ | refine Below.trans ?_ (Below.mono (by assumption) (by first | omega | (simp <;> omega)))))) HM.out hl2).mono ?_; rintro e w1 ⟨rfl, hb⟩; have hsz := hb.size; (try simp at hsz)))
  repeat' (first | (go_region <;> go_wp2_with (first | (go_at_call 45; refine (q1 _ (ha.later (by repeat' (first | exact Below.refl _ _ | refine Below.drew ?_ | refine below_drewN ?_ _ | refine Below.alloc ?_ (by first | omega | (simp <;> omega)) _ | refine Below.setCell ?_ (by first | omega | (simp <;> omega)) _ | refine Below.trans ?_ (Below.mono (by assumption) (by first | omega | (simp <;> omega))))))).mono ?_; rintro e w1 ⟨pA, cA, rfl, hrA, hb⟩; have hsz := hb.size; (try simp at hsz)) | (go_at_call 20; refine (kn_same _ _ ps _ _ _ _ (hrA.later (by repeat' (first | exact Below.refl _ _ | refine Below.drew ?_ | refine below_drewN ?_ _ | refine Below.alloc ?_ (by first | omega | (simp <;> omega)) _ | refine Below.setCell ?_ (by first | omega | (simp <;> omega)) _ | refine Below.trans ?_ (Below.mono (by assumption) (by first | omega | (simp <;> omega)))))) (hb0.later (by repeat' (first | exact Below.refl _ _ | refine Below.drew ?_ | refine below_drewN ?_ _ | refine Below.alloc ?_ (by first | omega | (simp <;> omega)) _ | refine Below.setCell ?_ (by first | omega | (simp <;> omega)) _ | refine Below.trans ?_ (Below.mono (by assumption) (by first | omega | (simp <;> omega)))))) HM.out hl2).mono ?_; rintro e w1 ⟨rfl, hb⟩; have hsz := hb.size; (try simp at hsz)))))
  all_goals go_light
  all_goals (try simp only [beq_iff_eq, beq_eq_false_iff_ne, bne_iff_ne, bne_eq_false_iff_eq, ne_eq] at *)
  all_goals
    refine bodyPost_ret (v := .bool true) (by simp [results, Try.results58, go_sem, *]) rfl ⟨rfl, ?_⟩
    repeat' (first | exact Below.refl _ _ | refine Below.drew ?_ | refine below_drewN ?_ _ | refine Below.alloc ?_ (by first | omega | (simp <;> omega)) _ | refine Below.setCell ?_ (by first | omega | (simp <;> omega)) _ | refine Below.trans ?_ (Below.mono (by assumption) (by first | omega | (simp <;> omega))))
theorem gi1 (a b : Option Addr) (cap capb : Nat) (w : World) (ha : Row .i64 w a [3, 1]) (hb : Row .i64 w b [24, 8]) : Calls Try.prog 58 #[.slice a 2 cap, .int .i64 6, .int .i64 5, .slice b 2 capb] w fun e w' => e = .returned (.bool true) ∧ Below w.heap.size w w' :=
  gives_t a b [3, 1] [24, 8] 2 cap 2 capb 6 5 w rfl rfl ha hb (by decide) (by decide) (by decide +kernel)
theorem gi2 (a b : Option Addr) (cap capb : Nat) (w : World) (ha : Row .i64 w a [1, 0, 1, 1]) (hb : Row .i64 w b [12, 0, 10, 10]) : Calls Try.prog 58 #[.slice a 4 cap, .int .i64 6, .int .i64 5, .slice b 4 capb] w fun e w' => e = .returned (.bool true) ∧ Below w.heap.size w w' :=
  gives_t a b [1, 0, 1, 1] [12, 0, 10, 10] 4 cap 4 capb 6 5 w rfl rfl ha hb (by decide) (by decide) (by decide +kernel)
theorem awake7 (w : World) : Calls Try.prog 42 #[] w fun e w' => e = .returned (.bool true) ∧ Below w.heap.size w w' := by
  go_enter Try.func42, Try.ntmps42
  go_wp2_with (first | (go_at_call 58; (with_reducible refine (gi1 _ _ _ _ _ ?_ ?_).mono ?_); (exact (row_c2 (by simp <;> omega) (by simp [go_sem, *]) (by simp [go_sem, *]))); (exact (row_c2 (by simp <;> omega) (by simp [go_sem, *]) (by simp [go_sem, *]))); rintro e w1 ⟨rfl, hb⟩; have hsz := hb.size; (try simp at hsz)) | (go_at_call 58; (with_reducible refine (gi2 _ _ _ _ _ ?_ ?_).mono ?_); (exact (row_c4 (by simp <;> omega) (by simp [go_sem, *]) (by simp [go_sem, *]) (by simp [go_sem, *]) (by simp [go_sem, *]))); (exact (row_c4 (by simp <;> omega) (by simp [go_sem, *]) (by simp [go_sem, *]) (by simp [go_sem, *]) (by simp [go_sem, *]))); rintro e w1 ⟨rfl, hb⟩; have hsz := hb.size; (try simp at hsz)))
  repeat' (first | (go_region <;> go_wp2_with (first | (go_at_call 58; (with_reducible refine (gi1 _ _ _ _ _ ?_ ?_).mono ?_); (exact (row_c2 (by simp <;> omega) (by simp [go_sem, *]) (by simp [go_sem, *]))); (exact (row_c2 (by simp <;> omega) (by simp [go_sem, *]) (by simp [go_sem, *]))); rintro e w1 ⟨rfl, hb⟩; have hsz := hb.size; (try simp at hsz)) | (go_at_call 58; (with_reducible refine (gi2 _ _ _ _ _ ?_ ?_).mono ?_); (exact (row_c4 (by simp <;> omega) (by simp [go_sem, *]) (by simp [go_sem, *]) (by simp [go_sem, *]) (by simp [go_sem, *]))); (exact (row_c4 (by simp <;> omega) (by simp [go_sem, *]) (by simp [go_sem, *]) (by simp [go_sem, *]) (by simp [go_sem, *]))); rintro e w1 ⟨rfl, hb⟩; have hsz := hb.size; (try simp at hsz)))))
  all_goals go_light
  all_goals (try simp only [beq_iff_eq, beq_eq_false_iff_ne, bne_iff_ne, bne_eq_false_iff_eq, ne_eq] at *)
  all_goals
    refine bodyPost_ret (v := .bool true) (by simp [results, Try.results42, go_sem, *]) rfl ⟨rfl, ?_⟩
    repeat' (first | exact Below.refl _ _ | refine Below.drew ?_ | refine below_drewN ?_ _ | refine Below.alloc ?_ (by first | omega | (simp <;> omega)) _ | refine Below.setCell ?_ (by first | omega | (simp <;> omega)) _ | refine Below.trans ?_ (Below.mono (by assumption) (by first | omega | (simp <;> omega))))

set_option maxHeartbeats 1000000 in
theorem normSums_w (a : Option Addr) (xs : List Int) (cap : Nat) (w : World) (ha : Row .i64 w a xs) (hl : xs.length ≤ 9223372036854775807) :
    Calls Try.prog 12 #[.slice a xs.length cap] w fun e w' => e = .returned (.bool true) ∧ Below w.heap.size w w' := by
  by_cases g1 : (300 : Int) < (xs.length : Int)
  · skip
    go_enter Try.func12, Try.ntmps12
    go_wp2_with ((go_at_call 42; refine (awake7 _).mono ?_; rintro e w1 ⟨rfl, hb⟩; have hsz := hb.size; (try simp at hsz)))
    repeat' (first | (go_region <;> go_wp2_with ((go_at_call 42; refine (awake7 _).mono ?_; rintro e w1 ⟨rfl, hb⟩; have hsz := hb.size; (try simp at hsz)))))
    all_goals go_light
    all_goals (try simp only [beq_iff_eq, beq_eq_false_iff_ne, bne_iff_ne, bne_eq_false_iff_eq, ne_eq] at *)
    all_goals
      refine bodyPost_ret (v := .bool true) (by simp [results, Try.results12, go_sem, *]) rfl ⟨rfl, ?_⟩
      repeat' (first | exact Below.refl _ _ | refine Below.drew ?_ | refine below_drewN ?_ _ | refine Below.alloc ?_ (by first | omega | (simp <;> omega)) _ | refine Below.setCell ?_ (by first | omega | (simp <;> omega)) _ | refine Below.trans ?_ (Below.mono (by assumption) (by first | omega | (simp <;> omega))))
  · skip
    have q1 := fun w h => sum_s a xs cap w h hl
    have q2 := fun w h => rsum_p a xs cap w h hl
    generalize rSum xs = R at q1 q2
    obtain ⟨R1, R2⟩ := R
    dsimp only at q1 q2
    go_enter Try.func12, Try.ntmps12
    go_wp2_with (first | (go_at_call 42; refine (awake7 _).mono ?_; rintro e w1 ⟨rfl, hb⟩; have hsz := hb.size; (try simp at hsz)) | (go_at_call 53; refine (q1 _ ha).mono ?_; rintro e w' ⟨rfl, rfl⟩) | (go_at_call 54; refine (q2 _ ha).mono ?_; rintro e w' ⟨rfl, rfl⟩))
    repeat' (first | ((first | (refine wp_region_later2 HA (by first | exact Nat.le_refl _ | (simp; done) | (simp; omega)) (by kernel_rfl) (by kernel_rfl) ?_; intro hLC) | (refine wp_region_later1 (by kernel_rfl) (by kernel_rfl) ?_; intro hLC)); (repeat (go_big_quiet_step ((go_at_call 42; exact Calls.later_of (awake7 _))))); refine wpQuiet_nil ?_; intro w2 hb2; clear hLC; have hsz := hb2.size; (try simp at hsz); (first | (have hbl := blater2 HA (by first | exact Nat.le_refl _ | (simp; done) | (simp; omega)) hb2; obtain ⟨hcc, hff, HA, hne, hne'⟩ := hbl) | (obtain ⟨hcc, hff, HA, hne, hne'⟩ := blater1 hb2)); (try simp only [World.size_alloc, World.size_setCell] at HA); go_wp2_with (first | (go_at_call 42; refine (awake7 _).mono ?_; rintro e w1 ⟨rfl, hb⟩; have hsz := hb.size; (try simp at hsz)) | (go_at_call 53; refine (q1 _ ha).mono ?_; rintro e w' ⟨rfl, rfl⟩) | (go_at_call 54; refine (q2 _ ha).mono ?_; rintro e w' ⟨rfl, rfl⟩))) | (go_region <;> go_wp2_with (first | (go_at_call 42; refine (awake7 _).mono ?_; rintro e w1 ⟨rfl, hb⟩; have hsz := hb.size; (try simp at hsz)) | (go_at_call 53; refine (q1 _ ha).mono ?_; rintro e w' ⟨rfl, rfl⟩) | (go_at_call 54; refine (q2 _ ha).mono ?_; rintro e w' ⟨rfl, rfl⟩))))
    all_goals go_light
    all_goals (try simp only [beq_iff_eq, beq_eq_false_iff_ne, bne_iff_ne, bne_eq_false_iff_eq, ne_eq] at *)
    all_goals
      refine bodyPost_ret (v := .bool true) (by simp [results, Try.results12, go_sem, *]) rfl ⟨rfl, ?_⟩
      repeat' (first | exact Below.refl _ _ | refine Below.drew ?_ | refine below_drewN ?_ _ | refine Below.alloc ?_ (by first | omega | (simp <;> omega)) _ | refine Below.setCell ?_ (by first | omega | (simp <;> omega)) _ | refine Below.trans ?_ (Below.mono (by assumption) (by first | omega | (simp <;> omega))))
end Go.Proofs.Ytgponpjlkebjcaa
