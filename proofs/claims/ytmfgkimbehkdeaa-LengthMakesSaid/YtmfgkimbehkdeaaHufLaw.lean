/-
  The statements' helpers on lengths, walked.
-/
import Derived.Test.YtmfgkimbehkdeaaRows
import Derived.Test.YtmfgkimbehkdeaaHufTot
import Derived.Test.YtmfgkimbehkdeaaHufOfW
import Derived.Test.YtmfgkimbehkdeaaGBase
import Derived.Deep.Light
import Derived.Shelf.Abstract
import Derived.Shelf.RegionOpen
import Derived.OwnWalkIn
import Derived.TacticsInMore
import Derived.LoopNIn
import Derived.LoopIn
namespace Go.Proofs.Ytmfgkimbehkdeaa
open Go.RowKit
set_option linter.unusedSimpArgs false
set_option linter.unusedVariables false
attribute [local go_sem] Oper.semAt_some
theorem row_c1 {w : World} {b : Nat} {x0 : Int} (hb : b < w.heap.size) (h0 : w.cell? ⟨b, 0, none⟩ = some (.int .i64 x0)) : Row .i64 w (some ⟨b, 0, none⟩) [x0] := by
  refine .inr ⟨b, 0, rfl, hb, fun i hi => ?_⟩
  simp only [List.length_cons, List.length_nil] at hi
  rw [Nat.zero_add]
  rcases i with _ | i
  · exact h0
  · omega
theorem row_c2 {w : World} {b : Nat} {x0 x1 : Int} (hb : b < w.heap.size) (h0 : w.cell? ⟨b, 0, none⟩ = some (.int .i64 x0)) (h1 : w.cell? ⟨b, 1, none⟩ = some (.int .i64 x1)) : Row .i64 w (some ⟨b, 0, none⟩) [x0, x1] := by
  refine .inr ⟨b, 0, rfl, hb, fun i hi => ?_⟩
  simp only [List.length_cons, List.length_nil] at hi
  rw [Nat.zero_add]
  rcases i with _ | _ | i
  · exact h0
  · exact h1
  · omega
theorem row_c3 {w : World} {b : Nat} {x0 x1 x2 : Int} (hb : b < w.heap.size) (h0 : w.cell? ⟨b, 0, none⟩ = some (.int .i64 x0)) (h1 : w.cell? ⟨b, 1, none⟩ = some (.int .i64 x1)) (h2 : w.cell? ⟨b, 2, none⟩ = some (.int .i64 x2)) : Row .i64 w (some ⟨b, 0, none⟩) [x0, x1, x2] := by
  refine .inr ⟨b, 0, rfl, hb, fun i hi => ?_⟩
  simp only [List.length_cons, List.length_nil] at hi
  rw [Nat.zero_add]
  rcases i with _ | _ | _ | i
  · exact h0
  · exact h1
  · exact h2
  · omega
theorem row_c4 {w : World} {b : Nat} {x0 x1 x2 x3 : Int} (hb : b < w.heap.size) (h0 : w.cell? ⟨b, 0, none⟩ = some (.int .i64 x0)) (h1 : w.cell? ⟨b, 1, none⟩ = some (.int .i64 x1)) (h2 : w.cell? ⟨b, 2, none⟩ = some (.int .i64 x2)) (h3 : w.cell? ⟨b, 3, none⟩ = some (.int .i64 x3)) : Row .i64 w (some ⟨b, 0, none⟩) [x0, x1, x2, x3] := by
  refine .inr ⟨b, 0, rfl, hb, fun i hi => ?_⟩
  simp only [List.length_cons, List.length_nil] at hi
  rw [Nat.zero_add]
  rcases i with _ | _ | _ | _ | i
  · exact h0
  · exact h1
  · exact h2
  · exact h3
  · omega

theorem len_x (a : Option Addr) (xs : List Int) (n cap : Nat) (w : World) (hn : n = xs.length) (ha : Row .i64 w a xs) (hl : n ≤ 9223372036854775807) (ps : List Int) (m : Nat) (E : Int) (h : rLen xs = (ps, E)) (hm : m = ps.length) :
    Calls Try.prog 10 #[.slice a n cap] w fun e w' => ∃ pa ca, e = .returned (.tuple #[.slice pa m ca, .int .i64 E]) ∧ Row .i64 w' pa ps ∧ Below w.heap.size w w' := by
  subst hn hm
  have := of_w a xs cap w ha hl
  rw [h] at this
  refine this.mono ?_
  rintro e w' ⟨pa, ca, h1, h3, h4⟩
  exact ⟨pa, ca, h1, h3, h4⟩
theorem dep_x (a : Option Addr) (xs : List Int) (n cap : Nat) (w : World) (hn : n = xs.length) (ha : Row .i64 w a xs) (hl : n ≤ 9223372036854775807) (ps : List Int) (m : Nat) (E : Int) (h : rDep xs = (ps, E)) (hm : m = ps.length) :
    Calls Try.prog 12 #[.slice a n cap] w fun e w' => ∃ pa ca, e = .returned (.tuple #[.slice pa m ca, .int .i64 E]) ∧ Row .i64 w' pa ps ∧ Below w.heap.size w w' := by
  subst hn hm
  have := depths_w a xs cap w ha hl
  rw [h] at this
  refine this.mono ?_
  rintro e w' ⟨pa, ca, h1, h3, h4⟩
  exact ⟨pa, ca, h1, h3, h4⟩
theorem chk_x (a : Option Addr) (xs : List Int) (n cap : Nat) (w : World) (hn : n = xs.length) (ha : Row .i64 w a xs) (hl : n ≤ 9223372036854775807) (E : Int) (h : rChk2 xs = E) :
    Calls Try.prog 21 #[.slice a n cap] w fun e w' => e = .returned (.int .i64 E) ∧ Below w.heap.size w w' := by
  subst hn h
  exact check_w a xs cap w ha hl
theorem room_x (a : Option Addr) (xs : List Int) (n cap : Nat) (w : World) (hn : n = xs.length) (ha : Row .i64 w a xs) (hl : n ≤ 9223372036854775807) (v E : Int) (h : rRoom xs = (v, E)) :
    Calls Try.prog 15 #[.slice a n cap] w fun e w' => e = .returned (.tuple #[.int .i64 v, .int .i64 E]) ∧ Below w.heap.size w w' := by
  subst hn
  have := room_w a xs cap w ha hl
  rwa [h] at this
theorem most_x (a : Option Addr) (xs : List Int) (n cap : Nat) (w : World) (hn : n = xs.length) (ha : Row .i64 w a xs) (hl : n ≤ 9223372036854775807) (v E : Int) (h : rMost2 xs = (v, E)) :
    Calls Try.prog 17 #[.slice a n cap] w fun e w' => e = .returned (.tuple #[.int .i64 v, .int .i64 E]) ∧ Below w.heap.size w w' := by
  subst hn
  have := most_w a xs cap w ha hl
  rwa [h] at this
theorem total_x (a b : Option Addr) (cs xs : List Int) (n m ca cb : Nat) (w : World) (hn : n = cs.length) (hm : m = xs.length) (ha : Row .i64 w a cs) (hb : Row .i64 w b xs) (hl : n ≤ 9223372036854775807) (hl2 : m ≤ 9223372036854775807) (v E : Int) (h : rTotal cs xs = (v, E)) :
    Calls Try.prog 19 #[.slice a n ca, .slice b m cb] w fun e w' => e = .returned (.tuple #[.int .i64 v, .int .i64 E]) ∧ Below w.heap.size w w' := by
  subst hn hm
  have := total_w a b cs xs ca cb w ha hb hl hl2
  rwa [h] at this

theorem of_t (a b : Option Addr) (ps xs : List Int) (m capa n capb : Nat) (w : World) (hm : m = ps.length) (hn : n = xs.length) (ha : Row .i64 w a ps) (hb0 : Row .i64 w b xs) (hl : m ≤ 9223372036854775807) (hl2 : n ≤ 9223372036854775807) (h : rLen xs = (ps, 0)) :
    Calls Try.prog 23 #[.slice a m capa, .slice b n capb] w fun e w' => e = .returned (.bool true) ∧ Below w.heap.size w w' := by
  have q1 := fun w h2 => len_x b xs n capb w hn h2 hl2 ps m 0 h hm
  have HM := Lib.hid hm
  clear h hn hm
  go_enter Try.func23, Try.ntmps23
  go_wp2_with (first | (go_at_call 10; refine (q1 _ (hb0.later (by repeat' (first | with_reducible exact Below.refl _ _ | with_reducible refine Below.drew ?_ | with_reducible refine below_drewN ?_ _ | with_reducible refine Below.alloc ?_ (by first | omega | (simp <;> omega)) _ | with_reducible refine Below.setCell ?_ (by first | omega | (dsimp only; omega) | (simp <;> omega)) _ | with_reducible refine Below.trans ?_ (Below.mono (by assumption) (by first | omega | (simp <;> omega))))))).mono ?_; rintro e w1 ⟨pA, cA, rfl, hrA, hb⟩; have hsz := hb.size; (try simp at hsz)) | (go_at_call 14; refine (kn_same _ _ ps _ _ _ _ (hrA.later (by repeat' (first | with_reducible exact Below.refl _ _ | with_reducible refine Below.drew ?_ | with_reducible refine below_drewN ?_ _ | with_reducible refine Below.alloc ?_ (by first | omega | (simp <;> omega)) _ | with_reducible refine Below.setCell ?_ (by first | omega | (dsimp only; omega) | (simp <;> omega)) _ | with_reducible refine Below.trans ?_ (Below.mono (by assumption) (by first | omega | (simp <;> omega)))))) (ha.later (by repeat' (first | with_reducible exact Below.refl _ _ | with_reducible refine Below.drew ?_ | with_reducible refine below_drewN ?_ _ | with_reducible refine Below.alloc ?_ (by first | omega | (simp <;> omega)) _ | with_reducible refine Below.setCell ?_ (by first | omega | (dsimp only; omega) | (simp <;> omega)) _ | with_reducible refine Below.trans ?_ (Below.mono (by assumption) (by first | omega | (simp <;> omega)))))) HM.out hl).mono ?_; rintro e w1 ⟨rfl, hb⟩; have hsz := hb.size; (try simp at hsz)))
  repeat' (first | (go_region <;> go_wp2_with (first | (go_at_call 10; refine (q1 _ (hb0.later (by repeat' (first | with_reducible exact Below.refl _ _ | with_reducible refine Below.drew ?_ | with_reducible refine below_drewN ?_ _ | with_reducible refine Below.alloc ?_ (by first | omega | (simp <;> omega)) _ | with_reducible refine Below.setCell ?_ (by first | omega | (dsimp only; omega) | (simp <;> omega)) _ | with_reducible refine Below.trans ?_ (Below.mono (by assumption) (by first | omega | (simp <;> omega))))))).mono ?_; rintro e w1 ⟨pA, cA, rfl, hrA, hb⟩; have hsz := hb.size; (try simp at hsz)) | (go_at_call 14; refine (kn_same _ _ ps _ _ _ _ (hrA.later (by repeat' (first | with_reducible exact Below.refl _ _ | with_reducible refine Below.drew ?_ | with_reducible refine below_drewN ?_ _ | with_reducible refine Below.alloc ?_ (by first | omega | (simp <;> omega)) _ | with_reducible refine Below.setCell ?_ (by first | omega | (dsimp only; omega) | (simp <;> omega)) _ | with_reducible refine Below.trans ?_ (Below.mono (by assumption) (by first | omega | (simp <;> omega)))))) (ha.later (by repeat' (first | with_reducible exact Below.refl _ _ | with_reducible refine Below.drew ?_ | with_reducible refine below_drewN ?_ _ | with_reducible refine Below.alloc ?_ (by first | omega | (simp <;> omega)) _ | with_reducible refine Below.setCell ?_ (by first | omega | (dsimp only; omega) | (simp <;> omega)) _ | with_reducible refine Below.trans ?_ (Below.mono (by assumption) (by first | omega | (simp <;> omega)))))) HM.out hl).mono ?_; rintro e w1 ⟨rfl, hb⟩; have hsz := hb.size; (try simp at hsz)))))
  all_goals go_light
  all_goals (try simp only [beq_iff_eq, beq_eq_false_iff_ne, bne_iff_ne, bne_eq_false_iff_eq, ne_eq] at *)
  all_goals
    refine bodyPost_ret (v := .bool true) (by simp [results, Try.results23, go_sem, *]) rfl ⟨rfl, ?_⟩
    repeat' (first | with_reducible exact Below.refl _ _ | with_reducible refine Below.drew ?_ | with_reducible refine below_drewN ?_ _ | with_reducible refine Below.alloc ?_ (by first | omega | (simp <;> omega)) _ | with_reducible refine Below.setCell ?_ (by first | omega | (dsimp only; omega) | (simp <;> omega)) _ | with_reducible refine Below.trans ?_ (Below.mono (by assumption) (by first | omega | (simp <;> omega))))

theorem refuses_t (b : Option Addr) (xs : List Int) (n capb : Nat) (E : Int) (w : World) (hn : n = xs.length) (hb0 : Row .i64 w b xs) (hl2 : n ≤ 9223372036854775807) (h : rLen xs = ([], E)) :
    Calls Try.prog 24 #[.int .i64 E, .slice b n capb] w fun e w' => e = .returned (.bool true) ∧ Below w.heap.size w w' := by
  have q1 := fun w h2 => len_x b xs n capb w hn h2 hl2 [] 0 E h rfl
  clear h hn
  go_enter Try.func24, Try.ntmps24
  go_wp2_with (first | (go_at_call 10; refine (q1 _ (hb0.later (by repeat' (first | with_reducible exact Below.refl _ _ | with_reducible refine Below.drew ?_ | with_reducible refine below_drewN ?_ _ | with_reducible refine Below.alloc ?_ (by first | omega | (simp <;> omega)) _ | with_reducible refine Below.setCell ?_ (by first | omega | (dsimp only; omega) | (simp <;> omega)) _ | with_reducible refine Below.trans ?_ (Below.mono (by assumption) (by first | omega | (simp <;> omega))))))).mono ?_; rintro e w1 ⟨pA, cA, rfl, hrA, hb⟩; have hsz := hb.size; (try simp at hsz)))
  repeat' (first | (go_region <;> go_wp2_with (first | (go_at_call 10; refine (q1 _ (hb0.later (by repeat' (first | with_reducible exact Below.refl _ _ | with_reducible refine Below.drew ?_ | with_reducible refine below_drewN ?_ _ | with_reducible refine Below.alloc ?_ (by first | omega | (simp <;> omega)) _ | with_reducible refine Below.setCell ?_ (by first | omega | (dsimp only; omega) | (simp <;> omega)) _ | with_reducible refine Below.trans ?_ (Below.mono (by assumption) (by first | omega | (simp <;> omega))))))).mono ?_; rintro e w1 ⟨pA, cA, rfl, hrA, hb⟩; have hsz := hb.size; (try simp at hsz)))))
  all_goals go_light
  all_goals (try simp only [beq_iff_eq, beq_eq_false_iff_ne, bne_iff_ne, bne_eq_false_iff_eq, ne_eq] at *)
  all_goals
    refine bodyPost_ret (v := .bool true) (by simp [results, Try.results24, go_sem, *]) rfl ⟨rfl, ?_⟩
    repeat' (first | with_reducible exact Below.refl _ _ | with_reducible refine Below.drew ?_ | with_reducible refine below_drewN ?_ _ | with_reducible refine Below.alloc ?_ (by first | omega | (simp <;> omega)) _ | with_reducible refine Below.setCell ?_ (by first | omega | (dsimp only; omega) | (simp <;> omega)) _ | with_reducible refine Below.trans ?_ (Below.mono (by assumption) (by first | omega | (simp <;> omega))))
theorem o1 (a b : Option Addr) (capa capb : Nat) (w : World) (ha : Row .i64 w a [1, 3, 2, 3]) (hb : Row .i64 w b [5, 1, 2, 1]) : Calls Try.prog 23 #[.slice a 4 capa, .slice b 4 capb] w fun e w' => e = .returned (.bool true) ∧ Below w.heap.size w w' :=
  of_t a b [1, 3, 2, 3] [5, 1, 2, 1] 4 capa 4 capb w rfl rfl ha hb (by decide) (by decide) (by decide +kernel)
theorem o2 (a b : Option Addr) (capa capb : Nat) (w : World) (ha : Row .i64 w a [1, 1]) (hb : Row .i64 w b [1, 1]) : Calls Try.prog 23 #[.slice a 2 capa, .slice b 2 capb] w fun e w' => e = .returned (.bool true) ∧ Below w.heap.size w w' :=
  of_t a b [1, 1] [1, 1] 2 capa 2 capb w rfl rfl ha hb (by decide) (by decide) (by decide +kernel)
theorem o3 (a b : Option Addr) (capa capb : Nat) (w : World) (ha : Row .i64 w a [0, 1, 0, 1]) (hb : Row .i64 w b [0, 3, 0, 3]) : Calls Try.prog 23 #[.slice a 4 capa, .slice b 4 capb] w fun e w' => e = .returned (.bool true) ∧ Below w.heap.size w w' :=
  of_t a b [0, 1, 0, 1] [0, 3, 0, 3] 4 capa 4 capb w rfl rfl ha hb (by decide) (by decide) (by decide +kernel)
theorem o4 (a b : Option Addr) (capa capb : Nat) (w : World) (ha : Row .i64 w a [2, 2, 1]) (hb : Row .i64 w b [1, 1, 1]) : Calls Try.prog 23 #[.slice a 3 capa, .slice b 3 capb] w fun e w' => e = .returned (.bool true) ∧ Below w.heap.size w w' :=
  of_t a b [2, 2, 1] [1, 1, 1] 3 capa 3 capb w rfl rfl ha hb (by decide) (by decide) (by decide +kernel)
theorem r1 (b : Option Addr) (capb : Nat) (w : World) (hb : Row .i64 w b [5]) : Calls Try.prog 24 #[.int .i64 7, .slice b 1 capb] w fun e w' => e = .returned (.bool true) ∧ Below w.heap.size w w' :=
  refuses_t b [5] 1 capb 7 w rfl hb (by decide) (by decide +kernel)
theorem r2 (b : Option Addr) (capb : Nat) (w : World) (hb : Row .i64 w b []) : Calls Try.prog 24 #[.int .i64 7, .slice b 0 capb] w fun e w' => e = .returned (.bool true) ∧ Below w.heap.size w w' :=
  refuses_t b [] 0 capb 7 w rfl hb (by decide) (by decide +kernel)
theorem r3 (b : Option Addr) (capb : Nat) (w : World) (hb : Row .i64 w b [-1, 5]) : Calls Try.prog 24 #[.int .i64 2, .slice b 2 capb] w fun e w' => e = .returned (.bool true) ∧ Below w.heap.size w w' :=
  refuses_t b [-1, 5] 2 capb 2 w rfl hb (by decide) (by decide +kernel)
theorem k1 (b : Option Addr) (capb : Nat) (w : World) (hb : Row .i64 w b [1, 1, 1]) : Calls Try.prog 21 #[.slice b 3 capb] w fun e w' => e = .returned (.int .i64 21) ∧ Below w.heap.size w w' :=
  chk_x b [1, 1, 1] 3 capb w rfl hb (by decide) 21 (by decide +kernel)
theorem k2 (b : Option Addr) (capb : Nat) (w : World) (hb : Row .i64 w b [1, 3, 2, 3]) : Calls Try.prog 21 #[.slice b 4 capb] w fun e w' => e = .returned (.int .i64 0) ∧ Below w.heap.size w w' :=
  chk_x b [1, 3, 2, 3] 4 capb w rfl hb (by decide) 0 (by decide +kernel)
theorem k3 (b : Option Addr) (capb : Nat) (w : World) (hb : Row .i64 w b [1]) : Calls Try.prog 21 #[.slice b 1 capb] w fun e w' => e = .returned (.int .i64 7) ∧ Below w.heap.size w w' :=
  chk_x b [1] 1 capb w rfl hb (by decide) 7 (by decide +kernel)
theorem k4 (b : Option Addr) (capb : Nat) (w : World) (hb : Row .i64 w b [12]) : Calls Try.prog 21 #[.slice b 1 capb] w fun e w' => e = .returned (.int .i64 2) ∧ Below w.heap.size w w' :=
  chk_x b [12] 1 capb w rfl hb (by decide) 2 (by decide +kernel)
theorem t1 (a b : Option Addr) (capa capb : Nat) (w : World) (ha : Row .i64 w a [5, 1, 2, 1]) (hb : Row .i64 w b [1, 3, 2, 3]) : Calls Try.prog 19 #[.slice a 4 capa, .slice b 4 capb] w fun e w' => e = .returned (.tuple #[.int .i64 15, .int .i64 0]) ∧ Below w.heap.size w w' :=
  total_x a b [5, 1, 2, 1] [1, 3, 2, 3] 4 4 capa capb w rfl rfl ha hb (by decide) (by decide) 15 0 (by decide +kernel)
theorem t2 (a b : Option Addr) (capa capb : Nat) (w : World) (ha : Row .i64 w a [1, 1, 1]) (hb : Row .i64 w b [1, 1, 0]) : Calls Try.prog 19 #[.slice a 3 capa, .slice b 3 capb] w fun e w' => e = .returned (.tuple #[.int .i64 0, .int .i64 7]) ∧ Below w.heap.size w w' :=
  total_x a b [1, 1, 1] [1, 1, 0] 3 3 capa capb w rfl rfl ha hb (by decide) (by decide) 0 7 (by decide +kernel)

set_option maxHeartbeats 4000000 in
theorem awake13 (w : World) : Calls Try.prog 8 #[] w fun e w' => e = .returned (.bool true) ∧ Below w.heap.size w w' := by
  go_enter Try.func8, Try.ntmps8
  go_wp2_with (first | (go_at_call 23; (with_reducible refine (o1 _ _ _ _ _ ?_ ?_).mono ?_); (exact (row_c4 (by simp <;> omega) (by simp [go_sem, *]) (by simp [go_sem, *]) (by simp [go_sem, *]) (by simp [go_sem, *]))); (exact (row_c4 (by simp <;> omega) (by simp [go_sem, *]) (by simp [go_sem, *]) (by simp [go_sem, *]) (by simp [go_sem, *]))); rintro e w1 ⟨rfl, hb⟩; have hsz := hb.size; (try simp at hsz)) | (go_at_call 23; (with_reducible refine (o2 _ _ _ _ _ ?_ ?_).mono ?_); (exact (row_c2 (by simp <;> omega) (by simp [go_sem, *]) (by simp [go_sem, *]))); (exact (row_c2 (by simp <;> omega) (by simp [go_sem, *]) (by simp [go_sem, *]))); rintro e w1 ⟨rfl, hb⟩; have hsz := hb.size; (try simp at hsz)) | (go_at_call 24; (with_reducible refine (r1 _ _ _ ?_).mono ?_); (exact (row_c1 (by simp <;> omega) (by simp [go_sem, *]))); rintro e w1 ⟨rfl, hb⟩; have hsz := hb.size; (try simp at hsz)) | (go_at_call 21; (with_reducible refine (k1 _ _ _ ?_).mono ?_); (exact (row_c3 (by simp <;> omega) (by simp [go_sem, *]) (by simp [go_sem, *]) (by simp [go_sem, *]))); rintro e w1 ⟨rfl, hb⟩; have hsz := hb.size; (try simp at hsz)) | (go_at_call 19; (with_reducible refine (t1 _ _ _ _ _ ?_ ?_).mono ?_); (exact (row_c4 (by simp <;> omega) (by simp [go_sem, *]) (by simp [go_sem, *]) (by simp [go_sem, *]) (by simp [go_sem, *]))); (exact (row_c4 (by simp <;> omega) (by simp [go_sem, *]) (by simp [go_sem, *]) (by simp [go_sem, *]) (by simp [go_sem, *]))); rintro e w1 ⟨rfl, hb⟩; have hsz := hb.size; (try simp at hsz)))
  repeat' (first | (go_region <;> go_wp2_with (first | (go_at_call 23; (with_reducible refine (o1 _ _ _ _ _ ?_ ?_).mono ?_); (exact (row_c4 (by simp <;> omega) (by simp [go_sem, *]) (by simp [go_sem, *]) (by simp [go_sem, *]) (by simp [go_sem, *]))); (exact (row_c4 (by simp <;> omega) (by simp [go_sem, *]) (by simp [go_sem, *]) (by simp [go_sem, *]) (by simp [go_sem, *]))); rintro e w1 ⟨rfl, hb⟩; have hsz := hb.size; (try simp at hsz)) | (go_at_call 23; (with_reducible refine (o2 _ _ _ _ _ ?_ ?_).mono ?_); (exact (row_c2 (by simp <;> omega) (by simp [go_sem, *]) (by simp [go_sem, *]))); (exact (row_c2 (by simp <;> omega) (by simp [go_sem, *]) (by simp [go_sem, *]))); rintro e w1 ⟨rfl, hb⟩; have hsz := hb.size; (try simp at hsz)) | (go_at_call 24; (with_reducible refine (r1 _ _ _ ?_).mono ?_); (exact (row_c1 (by simp <;> omega) (by simp [go_sem, *]))); rintro e w1 ⟨rfl, hb⟩; have hsz := hb.size; (try simp at hsz)) | (go_at_call 21; (with_reducible refine (k1 _ _ _ ?_).mono ?_); (exact (row_c3 (by simp <;> omega) (by simp [go_sem, *]) (by simp [go_sem, *]) (by simp [go_sem, *]))); rintro e w1 ⟨rfl, hb⟩; have hsz := hb.size; (try simp at hsz)) | (go_at_call 19; (with_reducible refine (t1 _ _ _ _ _ ?_ ?_).mono ?_); (exact (row_c4 (by simp <;> omega) (by simp [go_sem, *]) (by simp [go_sem, *]) (by simp [go_sem, *]) (by simp [go_sem, *]))); (exact (row_c4 (by simp <;> omega) (by simp [go_sem, *]) (by simp [go_sem, *]) (by simp [go_sem, *]) (by simp [go_sem, *]))); rintro e w1 ⟨rfl, hb⟩; have hsz := hb.size; (try simp at hsz)))))
  all_goals go_light
  all_goals (try simp only [beq_iff_eq, beq_eq_false_iff_ne, bne_iff_ne, bne_eq_false_iff_eq, ne_eq] at *)
  all_goals
    refine bodyPost_ret (v := .bool true) (by simp [results, Try.results8, go_sem, *]) rfl ⟨rfl, ?_⟩
    repeat' (first | with_reducible exact Below.refl _ _ | with_reducible refine Below.drew ?_ | with_reducible refine below_drewN ?_ _ | with_reducible refine Below.alloc ?_ (by first | omega | (simp <;> omega)) _ | with_reducible refine Below.setCell ?_ (by first | omega | (dsimp only; omega) | (simp <;> omega)) _ | with_reducible refine Below.trans ?_ (Below.mono (by assumption) (by first | omega | (simp <;> omega))))
end Go.Proofs.Ytmfgkimbehkdeaa
