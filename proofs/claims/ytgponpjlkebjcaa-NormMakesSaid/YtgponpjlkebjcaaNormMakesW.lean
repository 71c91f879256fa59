/-
  NormMakes, walked.
-/
import Derived.Test.YtgponpjlkebjcaaRows
import Derived.Test.YtgponpjlkebjcaaNormROf
import Derived.Test.YtgponpjlkebjcaaNorm8
import Derived.Test.YtgponpjlkebjcaaCountsTellsW
import Derived.Test.YtgponpjlkebjcaaCommon
import Derived.Deep.Light
import Derived.Shelf.Abstract
import Derived.Shelf.RegionOpen
import Derived.OwnWalkIn
import Derived.TacticsInMore
import Derived.LoopNIn
import Derived.LoopIn
import Derived.Outline
namespace Go.Proofs.Ytgponpjlkebjcaa
open Go.RowKit
set_option linter.unusedSimpArgs false
set_option linter.unusedVariables false
open Go.Shelf
attribute [local go_sem] Oper.semAt_some

theorem rof_x (a : Option Addr) (xs : List Int) (n cap : Nat) (most : Int) (w : World) (hn : n = xs.length) (ha : Row .i64 w a xs) (hl : n ≤ 9223372036854775807) (l : Int) (ps : List Int) (m : Nat) (E : Int) (h : rOf xs most = ((l, ps), E)) (hm : m = ps.length) :
    Calls Try.prog 46 #[.slice a n cap, .int .i64 most] w fun e w' => ∃ pa ca, e = .returned (.tuple #[.agg #[.int .i64 l, .slice pa m ca], .int .i64 E]) ∧ Row .i64 w' pa ps ∧ Below w.heap.size w w' := by
  subst hn hm
  have := rof_p a xs cap most w ha hl
  rw [h] at this
  refine this.mono ?_
  rintro e w' ⟨pa, ca, h1, _, h3, h4⟩
  exact ⟨pa, ca, h1, h3, h4⟩

theorem rwith_x (a : Option Addr) (xs : List Int) (n cap : Nat) (most : Int) (w : World) (hn : n = xs.length) (ha : Row .i64 w a xs) (hl : n ≤ 9223372036854775807) (l : Int) (ps : List Int) (m : Nat) (E : Int) (h : rWith xs most = ((l, ps), E)) (hm : m = ps.length) :
    Calls Try.prog 49 #[.slice a n cap, .int .i64 most] w fun e w' => ∃ pa ca, e = .returned (.tuple #[.agg #[.int .i64 l, .slice pa m ca], .int .i64 E]) ∧ Row .i64 w' pa ps ∧ Below w.heap.size w w' := by
  subst hn hm
  have := rwith_p a xs cap most w ha hl
  rw [h] at this
  refine this.mono ?_
  rintro e w' ⟨pa, ca, h1, _, h3, h4⟩
  exact ⟨pa, ca, h1, h3, h4⟩

theorem same7 (l : Int) (pa pb : Option Addr) (ps : List Int) (n ca cb : Nat) (w : World) (hn : n = ps.length) (ha : Row .i64 w pa ps) (hb0 : Row .i64 w pb ps) (hl : n ≤ 9223372036854775807) :
    Calls Try.prog 47 #[.agg #[.int .i64 l, .slice pa n ca], .agg #[.int .i64 l, .slice pb n cb]] w fun e w' => e = .returned (.bool true) ∧ Below w.heap.size w w' := by
  have HM := Lib.hid hn
  clear hn
  go_enter Try.func47, Try.ntmps47
  go_wp2_with ((go_at_call 20; refine (kn_same _ _ ps _ _ _ _ (ha.later (by repeat' (first | exact Below.refl _ _ | refine Below.drew ?_ | refine below_drewN ?_ _ | refine Below.alloc ?_ (by first | omega | (simp <;> omega)) _ | refine Below.setCell ?_ (by first | omega | (simp <;> omega)) _ | refine Below.trans ?_ (Below.mono (by assumption) (by first | omega | (simp <;> omega)))))) (hb0.later (by repeat' (first | exact Below.refl _ _ | refine Below.drew ?_ | refine below_drewN ?_ _ | refine Below.alloc ?_ (by first | omega | (simp <;> omega)) _ | refine Below.setCell ?_ (by first | omega | (simp <;> omega)) _ | refine Below.trans ?_ (Below.mono (by assumption) (by first | omega | (simp <;> omega)))))) HM.out hl).mono ?_; rintro e w1 ⟨rfl, hb⟩; have hsz := hb.size; (try simp at hsz)))
  repeat' (first | (go_region <;> go_wp2_with ((go_at_call 20; refine (kn_same _ _ ps _ _ _ _ (ha.later (by repeat' (first | exact Below.refl _ _ | refine Below.drew ?_ | refine below_drewN ?_ _ | refine Below.alloc ?_ (by first | omega | (simp <;> omega)) _ | refine Below.setCell ?_ (by first | omega | (simp <;> omega)) _ | refine Below.trans ?_ (Below.mono (by assumption) (by first | omega | (simp <;> omega)))))) (hb0.later (by repeat' (first | exact Below.refl _ _ | refine Below.drew ?_ | refine below_drewN ?_ _ | refine Below.alloc ?_ (by first | omega | (simp <;> omega)) _ | refine Below.setCell ?_ (by first | omega | (simp <;> omega)) _ | refine Below.trans ?_ (Below.mono (by assumption) (by first | omega | (simp <;> omega)))))) HM.out hl).mono ?_; rintro e w1 ⟨rfl, hb⟩; have hsz := hb.size; (try simp at hsz)))))
  all_goals go_light
  all_goals (try simp only [beq_iff_eq, beq_eq_false_iff_ne, bne_iff_ne, bne_eq_false_iff_eq, ne_eq] at *)
  all_goals
    refine bodyPost_ret (v := .bool true) (by simp [results, Try.results47, go_sem, *]) rfl ⟨rfl, ?_⟩
    repeat' (first | exact Below.refl _ _ | refine Below.drew ?_ | refine below_drewN ?_ _ | refine Below.alloc ?_ (by first | omega | (simp <;> omega)) _ | refine Below.setCell ?_ (by first | omega | (simp <;> omega)) _ | refine Below.trans ?_ (Below.mono (by assumption) (by first | omega | (simp <;> omega))))

theorem rWith_len (xs : List Int) (log : Int) : (rWith xs log).1.2.length ≤ xs.length := by
  unfold rWith
  split
  · simp
  · split
    · simp
    · split
      · simp
      · have h1 := dist0_len xs log.toNat
        have h2 := many_le xs
        show (dist0 xs log.toNat).length ≤ _
        omega
theorem rOf_len (xs : List Int) (most : Int) : (rOf xs most).1.2.length ≤ xs.length := by
  unfold rOf
  split
  · simp
  · exact rWith_len xs _

set_option maxRecDepth 100000 in
set_option maxHeartbeats 4000000 in
theorem makes_1 (a : Option Addr) (xs : List Int) (cap : Nat) (most log : Int) (w : World) (ha : Row .i64 w a xs) (hl : xs.length ≤ 300) :
    Calls Try.prog 8 #[.slice a xs.length cap, .int .i64 most, .int .i64 log] w fun e w' => e = .returned (.bool true) ∧ Below w.heap.size w w' := by
  have hl9 : xs.length ≤ 9223372036854775807 := by omega
  have g1 : ¬ (300 : Int) < (xs.length : Int) := by omega
  have qL := fun w pa ca h => log_p pa xs ca most w h hl9
  have qRL := fun w h => rlog_p a xs cap most w h hl9
  have qO := fun w pa ca h => of_p pa xs ca most w h hl9
  have qRO := fun w h => rof_p a xs cap most w h hl9
  have qW := fun w pa ca h => with_p pa xs ca log w h hl9
  have qRW := fun w h => rwith_p a xs cap log w h hl9
  have hn1 := rOf_len xs most
  have hn2 := rWith_len xs log
  obtain ⟨L, hL⟩ : ∃ L, rLog xs most = L := ⟨_, rfl⟩
  obtain ⟨O, hO⟩ : ∃ O, rOf xs most = O := ⟨_, rfl⟩
  obtain ⟨Q, hQ⟩ : ∃ Q, rWith xs log = Q := ⟨_, rfl⟩
  rw [hL] at qL qRL
  rw [hO] at qO qRO hn1
  rw [hQ] at qW qRW hn2
  clear hL hO hQ
  obtain ⟨L1, L2⟩ := L
  obtain ⟨⟨O1, O2⟩, O3⟩ := O
  obtain ⟨⟨Q1, Q2⟩, Q3⟩ := Q
  dsimp only at qL qRL hn1 hn2
  go_enter Try.func8, Try.ntmps8
  go_wp2_with (first | (go_at_call 15; refine (ownInts_k a xs cap _ ha (by omega)).mono ?_; rintro e w1 ⟨ph, ch, rfl, hrh, hb1⟩; have hs1 := hb1.size) | (go_at_call 43; refine (qL _ ph ch hrh).mono ?_; rintro e w2 ⟨rfl, hb2⟩; have hrh2 := hrh.later hb2; have HB2 := hb1.trans (hb2.mono hs1); have hs2 := HB2.size) | (go_at_call 44; refine (qRL _ (ha.later HB2)).mono ?_; rintro e w3 ⟨rfl, hb3⟩; have hrh3 := hrh2.later hb3; have HB3 := HB2.trans (hb3.mono hs2); have hs3 := HB3.size) | (go_at_call 45; refine (qO _ ph ch hrh3).mono ?_; rintro e w4 ⟨pA, cA, rfl, hgA, hrA, hb4⟩; have hrh4 := hrh3.later hb4; have HB4 := HB3.trans (hb4.mono hs3); have hs4 := HB4.size; have hra4 := ha.later HB4; clear hrh hrh2 hrh3 hgA) | (go_at_call 46; refine (qRO _ (hra4.later (by repeat' (first | exact Below.refl _ _ | refine Below.drew ?_ | refine below_drewN ?_ _ | refine Below.alloc ?_ (by first | omega | (simp <;> omega)) _ | refine Below.setCell ?_ (by first | omega | (simp <;> omega)) _ | refine Below.trans ?_ (Below.mono (by assumption) (by first | omega | (simp <;> omega))))))).mono ?_; rintro e w5 ⟨pB, cB, rfl, hgB, hrB, hb5⟩; have hs5 := hb5.size; (simp at hs5); have a0 : w5.cell? ⟨w4.heap.size, 0, none⟩ = some (.int .i64 O1) := (hb5.cell (p := ⟨w4.heap.size, 0, none⟩) (by simp <;> omega)).trans (by simp [go_sem, *]); have a1 : w5.cell? ⟨w4.heap.size, 1, none⟩ = some (.slice pA O2.length cA) := (hb5.cell (p := ⟨w4.heap.size, 1, none⟩) (by simp <;> omega)).trans (by simp [go_sem, *]); have a2 : w5.frozen? ⟨w4.heap.size, 0, none⟩ = false := (hb5.frozen (p := ⟨w4.heap.size, 0, none⟩) (by simp <;> omega)).trans (by simp [go_sem, *]); have a3 : w5.frozen? ⟨w4.heap.size, 1, none⟩ = false := (hb5.frozen (p := ⟨w4.heap.size, 1, none⟩) (by simp <;> omega)).trans (by simp [go_sem, *]); have HB5 : Below w4.heap.size w4 w5 := (by repeat' (first | exact Below.refl _ _ | refine Below.drew ?_ | refine below_drewN ?_ _ | refine Below.alloc ?_ (by first | omega | (simp <;> omega)) _ | refine Below.setCell ?_ (by first | omega | (simp <;> omega)) _ | refine Below.trans ?_ (Below.mono (by assumption) (by first | omega | (simp <;> omega))))); have hrA5 := hrA.later HB5; have hn5 : w5.heap.size ≠ w4.heap.size := (by omega); have hn5' : w4.heap.size ≠ w5.heap.size := (by omega); have hl5 : w4.heap.size < w5.heap.size := (by omega); clear hgB hrA) | (go_at_call 47; with_reducible refine (same7 O1 pA pB O2 _ cA cB _ rfl (hrA5.later (by repeat' (first | exact Below.refl _ _ | refine Below.drew ?_ | refine below_drewN ?_ _ | refine Below.alloc ?_ (by first | omega | (simp <;> omega)) _ | refine Below.setCell ?_ (by first | omega | (simp <;> omega)) _ | refine Below.trans ?_ (Below.mono (by assumption) (by first | omega | (simp <;> omega)))))) (hrB.later (by repeat' (first | exact Below.refl _ _ | refine Below.drew ?_ | refine below_drewN ?_ _ | refine Below.alloc ?_ (by first | omega | (simp <;> omega)) _ | refine Below.setCell ?_ (by first | omega | (simp <;> omega)) _ | refine Below.trans ?_ (Below.mono (by assumption) (by first | omega | (simp <;> omega)))))) (by omega)).mono ?_; rintro e w6 ⟨rfl, hb6⟩; have hs6 := hb6.size; (simp at hs6); have b0 : w6.cell? ⟨w4.heap.size, 0, none⟩ = some (.int .i64 O1) := (hb6.cell (p := ⟨w4.heap.size, 0, none⟩) (by simp <;> omega)).trans (by simp [go_sem, *]); have b1 : w6.cell? ⟨w4.heap.size, 1, none⟩ = some (.slice pA O2.length cA) := (hb6.cell (p := ⟨w4.heap.size, 1, none⟩) (by simp <;> omega)).trans (by simp [go_sem, *]); have b2 : w6.frozen? ⟨w4.heap.size, 0, none⟩ = false := (hb6.frozen (p := ⟨w4.heap.size, 0, none⟩) (by simp <;> omega)).trans (by simp [go_sem, *]); have b3 : w6.frozen? ⟨w4.heap.size, 1, none⟩ = false := (hb6.frozen (p := ⟨w4.heap.size, 1, none⟩) (by simp <;> omega)).trans (by simp [go_sem, *]); have c0 : w6.cell? ⟨w5.heap.size, 0, none⟩ = some (.int .i64 O1) := (hb6.cell (p := ⟨w5.heap.size, 0, none⟩) (by simp <;> omega)).trans (by simp [go_sem, *]); have c1 : w6.cell? ⟨w5.heap.size, 1, none⟩ = some (.slice pB O2.length cB) := (hb6.cell (p := ⟨w5.heap.size, 1, none⟩) (by simp <;> omega)).trans (by simp [go_sem, *]); have c2 : w6.frozen? ⟨w5.heap.size, 0, none⟩ = false := (hb6.frozen (p := ⟨w5.heap.size, 0, none⟩) (by simp <;> omega)).trans (by simp [go_sem, *]); have c3 : w6.frozen? ⟨w5.heap.size, 1, none⟩ = false := (hb6.frozen (p := ⟨w5.heap.size, 1, none⟩) (by simp <;> omega)).trans (by simp [go_sem, *]); have HB6 : Below w4.heap.size w4 w6 := (by repeat' (first | exact Below.refl _ _ | refine Below.drew ?_ | refine below_drewN ?_ _ | refine Below.alloc ?_ (by first | omega | (simp <;> omega)) _ | refine Below.setCell ?_ (by first | omega | (simp <;> omega)) _ | refine Below.trans ?_ (Below.mono (by assumption) (by first | omega | (simp <;> omega))))); clear hrA5 hrB a0 a1 a2 a3) | (go_at_call 48; refine (qW _ ph ch (hrh4.later HB6)).mono ?_; rintro e w7 ⟨pC, cC, rfl, hgC, hrC, hb7⟩; have hs7 := hb7.size; have d0 : w7.cell? ⟨w4.heap.size, 0, none⟩ = some (.int .i64 O1) := (hb7.cell (p := ⟨w4.heap.size, 0, none⟩) (by simp <;> omega)).trans (by simp [go_sem, *]); have d1 : w7.cell? ⟨w4.heap.size, 1, none⟩ = some (.slice pA O2.length cA) := (hb7.cell (p := ⟨w4.heap.size, 1, none⟩) (by simp <;> omega)).trans (by simp [go_sem, *]); have d2 : w7.frozen? ⟨w4.heap.size, 0, none⟩ = false := (hb7.frozen (p := ⟨w4.heap.size, 0, none⟩) (by simp <;> omega)).trans (by simp [go_sem, *]); have d3 : w7.frozen? ⟨w4.heap.size, 1, none⟩ = false := (hb7.frozen (p := ⟨w4.heap.size, 1, none⟩) (by simp <;> omega)).trans (by simp [go_sem, *]); have f0 : w7.cell? ⟨w5.heap.size, 0, none⟩ = some (.int .i64 O1) := (hb7.cell (p := ⟨w5.heap.size, 0, none⟩) (by simp <;> omega)).trans (by simp [go_sem, *]); have f1 : w7.cell? ⟨w5.heap.size, 1, none⟩ = some (.slice pB O2.length cB) := (hb7.cell (p := ⟨w5.heap.size, 1, none⟩) (by simp <;> omega)).trans (by simp [go_sem, *]); have f2 : w7.frozen? ⟨w5.heap.size, 0, none⟩ = false := (hb7.frozen (p := ⟨w5.heap.size, 0, none⟩) (by simp <;> omega)).trans (by simp [go_sem, *]); have f3 : w7.frozen? ⟨w5.heap.size, 1, none⟩ = false := (hb7.frozen (p := ⟨w5.heap.size, 1, none⟩) (by simp <;> omega)).trans (by simp [go_sem, *]); have HB7 : Below w4.heap.size w4 w7 := (by repeat' (first | exact Below.refl _ _ | refine Below.drew ?_ | refine below_drewN ?_ _ | refine Below.alloc ?_ (by first | omega | (simp <;> omega)) _ | refine Below.setCell ?_ (by first | omega | (simp <;> omega)) _ | refine Below.trans ?_ (Below.mono (by assumption) (by first | omega | (simp <;> omega))))); have hrC2 := hrC.other (a := ⟨w4.heap.size, 0, none⟩) (fun g hg => by have := hgC g (own_map hg); simp; omega) (.int .i64 Q1); have hrC3 := hrC2.other (a := ⟨w4.heap.size, 1, none⟩) (fun g hg => by have := hgC g (own_map hg); simp; omega) (.slice pC Q2.length cC); clear b0 b1 b2 b3 c0 c1 c2 c3 hrC hrC2) | (go_at_call 49; refine (qRW _ (hra4.later (by repeat' (first | exact Below.refl _ _ | refine Below.drew ?_ | refine below_drewN ?_ _ | refine Below.alloc ?_ (by first | omega | (simp <;> omega)) _ | refine Below.setCell ?_ (by first | omega | (simp <;> omega)) _ | refine Below.trans ?_ (Below.mono (by assumption) (by first | omega | (simp <;> omega))))))).mono ?_; rintro e w8 ⟨pD, cD, rfl, hgD, hrD, hb8⟩; have hs8 := hb8.size; (simp at hs8); have k0 : w8.cell? ⟨w4.heap.size, 0, none⟩ = some (.int .i64 Q1) := (hb8.cell (p := ⟨w4.heap.size, 0, none⟩) (by simp <;> omega)).trans (by simp [go_sem, *]); have k1 : w8.cell? ⟨w4.heap.size, 1, none⟩ = some (.slice pC Q2.length cC) := (hb8.cell (p := ⟨w4.heap.size, 1, none⟩) (by simp <;> omega)).trans (by simp [go_sem, *]); have k2 : w8.frozen? ⟨w4.heap.size, 0, none⟩ = false := (hb8.frozen (p := ⟨w4.heap.size, 0, none⟩) (by simp <;> omega)).trans (by simp [go_sem, *]); have k3 : w8.frozen? ⟨w4.heap.size, 1, none⟩ = false := (hb8.frozen (p := ⟨w4.heap.size, 1, none⟩) (by simp <;> omega)).trans (by simp [go_sem, *]); have m0 : w8.cell? ⟨w5.heap.size, 0, none⟩ = some (.int .i64 O1) := (hb8.cell (p := ⟨w5.heap.size, 0, none⟩) (by simp <;> omega)).trans (by simp [go_sem, *]); have m1 : w8.cell? ⟨w5.heap.size, 1, none⟩ = some (.slice pB O2.length cB) := (hb8.cell (p := ⟨w5.heap.size, 1, none⟩) (by simp <;> omega)).trans (by simp [go_sem, *]); have m2 : w8.frozen? ⟨w5.heap.size, 0, none⟩ = false := (hb8.frozen (p := ⟨w5.heap.size, 0, none⟩) (by simp <;> omega)).trans (by simp [go_sem, *]); have m3 : w8.frozen? ⟨w5.heap.size, 1, none⟩ = false := (hb8.frozen (p := ⟨w5.heap.size, 1, none⟩) (by simp <;> omega)).trans (by simp [go_sem, *]); have HB8 : Below w4.heap.size w4 w8 := (by repeat' (first | exact Below.refl _ _ | refine Below.drew ?_ | refine below_drewN ?_ _ | refine Below.alloc ?_ (by first | omega | (simp <;> omega)) _ | refine Below.setCell ?_ (by first | omega | (simp <;> omega)) _ | refine Below.trans ?_ (Below.mono (by assumption) (by first | omega | (simp <;> omega))))); have hrC4 := hrC3.later hb8; have hrC5 := hrC4.other (a := ⟨w5.heap.size, 0, none⟩) (fun g hg => by have := hgC g (own_map hg); simp; omega) (.int .i64 Q1); have hrC6 := hrC5.other (a := ⟨w5.heap.size, 1, none⟩) (fun g hg => by have := hgC g (own_map hg); simp; omega) (.slice pD Q2.length cD); have hrD2 := hrD.other (a := ⟨w5.heap.size, 0, none⟩) (fun g hg => by have := hgD g (own_map hg); (simp at this); simp; omega) (.int .i64 Q1); have hrD3 := hrD2.other (a := ⟨w5.heap.size, 1, none⟩) (fun g hg => by have := hgD g (own_map hg); (simp at this); simp; omega) (.slice pD Q2.length cD); clear d0 d1 d2 d3 f0 f1 f2 f3 hrC3 hrC4 hrC5 hrD hrD2) | (go_at_call 47; with_reducible refine (same7 Q1 pC pD Q2 _ cC cD _ rfl hrC6 hrD3 (by omega)).mono ?_; rintro e w9 ⟨rfl, hb9⟩; have hs9 := hb9.size; (simp at hs9); have HB9 : Below w4.heap.size w4 w9 := (by repeat' (first | exact Below.refl _ _ | refine Below.drew ?_ | refine below_drewN ?_ _ | refine Below.alloc ?_ (by first | omega | (simp <;> omega)) _ | refine Below.setCell ?_ (by first | omega | (simp <;> omega)) _ | refine Below.trans ?_ (Below.mono (by assumption) (by first | omega | (simp <;> omega)))))) | (go_at_call 20; refine (kn_same _ _ xs _ _ _ _ (hrh4.later HB9) (hra4.later HB9) rfl hl9).mono ?_; rintro e w10 ⟨rfl, hb10⟩; have hs10 := hb10.size; have HB10 := HB9.trans (hb10.mono (by have := HB9.size; omega))) | (go_at_call 42; refine (awake7 _).mono ?_; rintro e w11 ⟨rfl, hb11⟩; have HB11 := HB10.trans (hb11.mono (by have := HB10.size; omega)); have HB12 := HB4.trans (HB11.mono (by omega))))
  all_goals go_light
  exact bodyPost_ret (v := .bool true) (by simp [results, Try.results8, go_sem, *]) rfl ⟨rfl, HB12⟩
set_option maxHeartbeats 1000000 in
theorem normMakes_w (a : Option Addr) (xs : List Int) (cap : Nat) (most log : Int) (w : World) (ha : Row .i64 w a xs) (hl : xs.length ≤ 9223372036854775807) :
    Calls Try.prog 8 #[.slice a xs.length cap, .int .i64 most, .int .i64 log] w fun e w' => e = .returned (.bool true) ∧ Below w.heap.size w w' := by
  by_cases g0 : xs.length ≤ 300
  · exact makes_1 a xs cap most log w ha g0
  · have g1 : (300 : Int) < (xs.length : Int) := by omega
    go_enter Try.func8, Try.ntmps8
    go_wp2_with ((go_at_call 42; refine (awake7 _).mono ?_; rintro e w1 ⟨rfl, hb⟩; have hsz := hb.size; (try simp at hsz)))
    repeat' (first | (go_region <;> go_wp2_with ((go_at_call 42; refine (awake7 _).mono ?_; rintro e w1 ⟨rfl, hb⟩; have hsz := hb.size; (try simp at hsz)))))
    all_goals go_light
    all_goals (try simp only [beq_iff_eq, beq_eq_false_iff_ne, bne_iff_ne, bne_eq_false_iff_eq, ne_eq] at *)
    all_goals
      refine bodyPost_ret (v := .bool true) (by simp [results, Try.results8, go_sem, *]) rfl ⟨rfl, ?_⟩
      repeat' (first | exact Below.refl _ _ | refine Below.drew ?_ | refine below_drewN ?_ _ | refine Below.alloc ?_ (by first | omega | (simp <;> omega)) _ | refine Below.setCell ?_ (by first | omega | (simp <;> omega)) _ | refine Below.trans ?_ (Below.mono (by assumption) (by first | omega | (simp <;> omega))))
end Go.Proofs.Ytgponpjlkebjcaa
