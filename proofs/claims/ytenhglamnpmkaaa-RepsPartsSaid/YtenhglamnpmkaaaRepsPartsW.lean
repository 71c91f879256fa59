/-
  RepsParts, walked.
-/
import Derived.Test.YtenhglamnpmkaaaRows
import Derived.Test.YtenhglamnpmkaaaRepsBackW
import Derived.Test.YtenhglamnpmkaaaAppendG
import Derived.WalkMore
import Derived.Test.YtenhglamnpmkaaaCommon
import Derived.Deep.Light
import Derived.Shelf.Abstract
import Derived.Shelf.RegionOpen
import Derived.OwnWalkIn
import Derived.TacticsInMore
import Derived.LoopNIn
import Derived.LoopIn
namespace Go.Proofs.Ytenhglamnpmkaaa
open Go.RowKit
set_option linter.unusedSimpArgs false
set_option linter.unusedVariables false
open Go.Shelf
attribute [local go_sem] eq23 idx23_0 idx23_1 idx23_2 Oper.semAt_some

theorem RowQ.take {w : World} {a : Option Addr} {qs : List (Int × Int × Int)} (h : RowQ w a qs) (k : Nat) : RowQ w a (qs.take k) := by
  rcases h with rfl | ⟨b, off, ha, hlt, hc⟩
  · exact .inl (by simp)
  · refine .inr ⟨b, off, ha, hlt, fun i hi => ?_⟩
    have hi2 : i < k ∧ i < qs.length := by rw [List.length_take] at hi; omega
    have e : (qs.take k).getD i (0, 0, 0) = qs.getD i (0, 0, 0) := by simp [List.getD_eq_getElem?_getD, List.getElem?_take, hi2.1]
    rw [e]
    exact hc i hi2.2
/-- The address of what is left behind k elements. -/
def slf (a : Option Addr) (k c : Nat) : Option Addr := if c = k then a else a.map (·.add (k * 3))
theorem RowQ.drop {w : World} {a : Option Addr} {qs : List (Int × Int × Int)} (h : RowQ w a qs) (k c : Nat) (hc : qs.length ≤ c) : RowQ w (slf a k c) (qs.drop k) := by
  by_cases hk : qs.length ≤ k
  · exact .inl (List.drop_eq_nil_of_le hk)
  · rcases h with rfl | ⟨b, off, rfl, hlt, hcl⟩
    · simp at hk
    · refine .inr ⟨b, off + k * 3, by unfold slf; rw [if_neg (by omega)]; simp [Addr.add], hlt, fun i hi => ?_⟩
      rw [List.length_drop] at hi
      have e : (qs.drop k).getD i (0, 0, 0) = qs.getD (k + i) (0, 0, 0) := by simp [List.getD_eq_getElem?_getD]
      rw [e, show off + k * 3 + i * 3 = off + (k + i) * 3 by omega]
      exact hcl (k + i) (by omega)
theorem sizeSeq (w : World) : (sizeOf 79).run Try.prog w = .ok 3 w := by kernel_rfl
theorem sl_to (w : World) (a : Option Addr) (n c m : Nat) (h : m ≤ c) : (Instr.slice 42 (.slice a n c) none (some (.int .i64 (m : Int))) none).run Try.prog w = .ok (.slice a m c) w :=
  run_slice_to w 42 79 Try.underlying42 3 (sizeSeq w) a n c m h
theorem sl_from (w : World) (a : Option Addr) (n c m : Nat) (h : m ≤ n) : (Instr.slice 42 (.slice a n c) (some (.int .i64 (m : Int))) none none).run Try.prog w = .ok (.slice (slf a m c) (n - m) (c - m)) w := by
  have hu : Try.prog.underlying 42 = some (.slice (Try.prog.elem 42)) := by kernel_rfl
  have he : Try.prog.elem 42 = 79 := by kernel_rfl
  rw [run_slice_l w 42 a n c hu .i64 (m : Int) (by omega) (by omega), he, sizeSeq]
  rfl

set_option maxRecDepth 100000 in
set_option maxHeartbeats 4000000 in
theorem parts_1 (a b c e1 e2 e3 x1 x2 x3 y1 y2 y3 A n : Int) (k : Nat) (DS LS VS D1 D2 : List Int) (Q : List (Int × Int × Int)) (pn : Option Addr) (ns : List Int) (cn : Nat) (w : World) (ha : Row .i64 w pn ns)
    (hd1 : DS.length ≤ 20) (hQD : ((Q.length : Int) != (DS.length : Int)) = false) (hkQ : k ≤ Q.length) (hQ20 : Q.length ≤ 20) (hDD : Hid (D1 ++ D2 = DS))
    (qR : ∀ w, Calls Try.prog 26 #[.int .i64 n] w fun e w' => e = .returned (.agg #[.int .i64 a, .int .i64 b, .int .i64 c]) ∧ Below w.heap.size w w')
    (qG : ∀ w, Row .i64 w pn ns → Calls Try.prog 38 #[.slice pn ns.length cn] w (TwoPost DS LS w))
    (qV : ∀ w pd pl cd cl, Row .i64 w pd DS → Row .i64 w pl LS → Calls Try.prog 31 #[.agg #[.int .i64 a, .int .i64 b, .int .i64 c], .slice pd DS.length cd, .slice pl LS.length cl] w (RunPost (VS, (e1, e2, e3), 0) w))
    (qS : ∀ w pv pl cv cl, Row .i64 w pv VS → Row .i64 w pl LS → Calls Try.prog 39 #[.slice pv VS.length cv, .slice pl LS.length cl] w (SeqPost Q w))
    (qM : ∀ w, Calls Try.prog 27 #[.int .i64 A, .int .i64 ((Q.length : Int) + 1)] w fun e w' => e = .returned (.int .i64 (k : Int)) ∧ Below w.heap.size w w')
    (qN1 : ∀ w pq cq, RowQ w pq (Q.take k) → Calls Try.prog 34 #[.agg #[.int .i64 a, .int .i64 b, .int .i64 c], .slice pq k cq] w (RunPost2 (D1, (x1, x2, x3), 0) w))
    (qN2 : ∀ w pq cq, RowQ w pq (Q.drop k) → Calls Try.prog 34 #[.agg #[.int .i64 x1, .int .i64 x2, .int .i64 x3], .slice pq (Q.length - k) cq] w (RunPost2 (D2, (y1, y2, y3), 0) w))
    (qN3 : ∀ w pq cq, RowQ w pq Q → Calls Try.prog 34 #[.agg #[.int .i64 a, .int .i64 b, .int .i64 c], .slice pq Q.length cq] w (RunPost2 (DS, (y1, y2, y3), 0) w)) :
    Calls Try.prog 8 #[.int .i64 n, .slice pn ns.length cn, .int .i64 A] w fun e w' => e = .returned (.bool true) ∧ Below w.heap.size w w' := by
  go_enter Try.func8, Try.ntmps8
  go_wp2_with (first | (go_at_call 26; refine (qR _).mono ?_; rintro e w1 ⟨rfl, hb1⟩; have hs1 := hb1.size) | (go_at_call 38; refine (qG _ (ha.later (by repeat' (first | exact Below.refl _ _ | refine Below.drew ?_ | refine below_drewN ?_ _ | refine Below.alloc ?_ (by first | omega | (simp <;> omega)) _ | refine Below.setCell ?_ (by first | omega | (simp <;> omega)) _ | refine Below.trans ?_ (Below.mono (by assumption) (by first | omega | (simp <;> omega))))))).mono ?_; rintro e w2 ⟨p1, k1, p2, k2, rfl, hrD, hrL, hb2⟩; have hs2 := hb2.size; (simp at hs2); have r0 : w2.cell? ⟨w1.heap.size, 0, none⟩ = some (.int .i64 a) := (hb2.cell (p := ⟨w1.heap.size, 0, none⟩) (by simp <;> omega)).trans (by simp [go_sem, *]); have r1 : w2.cell? ⟨w1.heap.size, 1, none⟩ = some (.int .i64 b) := (hb2.cell (p := ⟨w1.heap.size, 1, none⟩) (by simp <;> omega)).trans (by simp [go_sem, *]); have r2 : w2.cell? ⟨w1.heap.size, 2, none⟩ = some (.int .i64 c) := (hb2.cell (p := ⟨w1.heap.size, 2, none⟩) (by simp <;> omega)).trans (by simp [go_sem, *]); have HB2 : Below w.heap.size w w2 := (by repeat' (first | exact Below.refl _ _ | refine Below.drew ?_ | refine below_drewN ?_ _ | refine Below.alloc ?_ (by first | omega | (simp <;> omega)) _ | refine Below.setCell ?_ (by first | omega | (simp <;> omega)) _ | refine Below.trans ?_ (Below.mono (by assumption) (by first | omega | (simp <;> omega)))))) | (go_at_call 31; refine (qV _ _ _ _ _ hrD hrL).mono ?_; rintro e w3 ⟨pV, cV, rfl, hrV, hb3⟩; have hs3 := hb3.size; have s0 : w3.cell? ⟨w1.heap.size, 0, none⟩ = some (.int .i64 a) := (hb3.cell (p := ⟨w1.heap.size, 0, none⟩) (by simp <;> omega)).trans (by simp [go_sem, *]); have s1 : w3.cell? ⟨w1.heap.size, 1, none⟩ = some (.int .i64 b) := (hb3.cell (p := ⟨w1.heap.size, 1, none⟩) (by simp <;> omega)).trans (by simp [go_sem, *]); have s2 : w3.cell? ⟨w1.heap.size, 2, none⟩ = some (.int .i64 c) := (hb3.cell (p := ⟨w1.heap.size, 2, none⟩) (by simp <;> omega)).trans (by simp [go_sem, *]); have hlt3 : w1.heap.size < w3.heap.size := (by omega); have hlt3' : ¬ w1.heap.size = w3.heap.size := (by omega); have hrL3 := hrL.later hb3; have HB3 : Below w.heap.size w w3 := HB2.trans (hb3.mono (by omega)); clear r0 r1 r2 hrD hrL HB2) | (go_at_call 39; refine (qS _ _ _ _ _ (hrV.later (by repeat' (first | exact Below.refl _ _ | refine Below.drew ?_ | refine below_drewN ?_ _ | refine Below.alloc ?_ (by first | omega | (simp <;> omega)) _ | refine Below.setCell ?_ (by first | omega | (simp <;> omega)) _ | refine Below.trans ?_ (Below.mono (by assumption) (by first | omega | (simp <;> omega)))))) (hrL3.later (by repeat' (first | exact Below.refl _ _ | refine Below.drew ?_ | refine below_drewN ?_ _ | refine Below.alloc ?_ (by first | omega | (simp <;> omega)) _ | refine Below.setCell ?_ (by first | omega | (simp <;> omega)) _ | refine Below.trans ?_ (Below.mono (by assumption) (by first | omega | (simp <;> omega))))))).mono ?_; rintro e w4 ⟨pQ, cQ, rfl, hrQ, hcQ, hb4⟩; have hs4 := hb4.size; (try simp at hs4); have t0 : w4.cell? ⟨w1.heap.size, 0, none⟩ = some (.int .i64 a) := (hb4.cell (p := ⟨w1.heap.size, 0, none⟩) (by simp <;> omega)).trans (by simp [go_sem, *]); have t1 : w4.cell? ⟨w1.heap.size, 1, none⟩ = some (.int .i64 b) := (hb4.cell (p := ⟨w1.heap.size, 1, none⟩) (by simp <;> omega)).trans (by simp [go_sem, *]); have t2 : w4.cell? ⟨w1.heap.size, 2, none⟩ = some (.int .i64 c) := (hb4.cell (p := ⟨w1.heap.size, 2, none⟩) (by simp <;> omega)).trans (by simp [go_sem, *]); have HB4 : Below w.heap.size w w4 := (by repeat' (first | exact Below.refl _ _ | refine Below.drew ?_ | refine below_drewN ?_ _ | refine Below.alloc ?_ (by first | omega | (simp <;> omega)) _ | refine Below.setCell ?_ (by first | omega | (simp <;> omega)) _ | refine Below.trans ?_ (Below.mono (by assumption) (by first | omega | (simp <;> omega))))); clear s0 s1 s2 hrV hrL3 HB3) | (go_at_call 27; refine (qM _).mono ?_; rintro e w5 ⟨rfl, hb5⟩; have hs5 := hb5.size; have u0 : w5.cell? ⟨w1.heap.size, 0, none⟩ = some (.int .i64 a) := (hb5.cell (p := ⟨w1.heap.size, 0, none⟩) (by simp <;> omega)).trans (by simp [go_sem, *]); have u1 : w5.cell? ⟨w1.heap.size, 1, none⟩ = some (.int .i64 b) := (hb5.cell (p := ⟨w1.heap.size, 1, none⟩) (by simp <;> omega)).trans (by simp [go_sem, *]); have u2 : w5.cell? ⟨w1.heap.size, 2, none⟩ = some (.int .i64 c) := (hb5.cell (p := ⟨w1.heap.size, 2, none⟩) (by simp <;> omega)).trans (by simp [go_sem, *]); have hQ := hrQ.later hb5; have HB5 : Below w.heap.size w w5 := HB4.trans (hb5.mono (by omega)); clear t0 t1 t2 hrQ HB4))
  obtain ⟨bR, hbR⟩ : ∃ x, w1.heap.size = x := ⟨_, rfl⟩
  rw [hbR] at u0 u1 u2
  have HA : ∀ n, n = bR → n < w5.heap.size := fun n h => by omega
  have hn3 : ¬ w5.heap.size = bR := by omega
  have hn3' : ¬ bR = w5.heap.size := by omega
  have hcA := hcQ
  have hs1' := fun w => sl_to w pQ Q.length cQ k (by omega)
  have hs2' := fun w => sl_from w pQ Q.length cQ k hkQ
  have HX1 := Lib.hid (show bR < w5.heap.size by omega)
  have hbw : w.heap.size ≤ w5.heap.size := HB5.size
  have HBW := Lib.hid hbw
  (try simp only [hbR])
  clear hb1 hb2 hb3 hb4 hb5 hs1 hs2 hs3 hs4 hs5 hbR qR qG qV qS qM ha hbw
  go_cut [12, 15, 16] (fun a12 a15 a16 wx => a12 = .int .i64 0 ∧ ∃ (pA : Option Addr) (cA BX : Nat), a15 = .slice pA D1.length cA ∧ a16 = .pointer (some ⟨BX, 0, none⟩) ∧ w5.heap.size ≤ BX ∧ BX < wx.heap.size ∧ wx.cell? ⟨BX, 0, none⟩ = some (.int .i64 x1) ∧ wx.cell? ⟨BX, 1, none⟩ = some (.int .i64 x2) ∧ wx.cell? ⟨BX, 2, none⟩ = some (.int .i64 x3) ∧ Row .i64 wx pA D1 ∧ Below w5.heap.size w5 wx)
  case first =>
    go_region_held3 (fun w' => w'.cell? ⟨bR, 0, none⟩ = some (.int .i64 a) ∧ w'.cell? ⟨bR, 1, none⟩ = some (.int .i64 b) ∧ w'.cell? ⟨bR, 2, none⟩ = some (.int .i64 c)) (first | (simp [go_sem, *]; done) | go_keep) ((go_at_call 34; refine (qN1 _ _ _ ((hQ.later (by repeat' (first | exact Below.refl _ _ | refine Below.drew ?_ | refine below_drewN ?_ _ | refine Below.alloc ?_ (by first | omega | (simp <;> omega)) _ | refine Below.setCell ?_ (by first | omega | (simp <;> omega)) _ | refine Below.trans ?_ (Below.mono (by assumption) (by first | omega | (simp <;> omega)))))).take k)).mono ?_; rintro e w6 ⟨pA, cA, rfl, hgA, hrA, hb6⟩; have hsz := hb6.size; (try simp at hsz); (first | (have hbl := blater2 HA (by first | exact Nat.le_refl _ | (simp; done) | (simp; omega)) hb6; obtain ⟨hcc, hff, HA, hne, hne'⟩ := hbl) | (obtain ⟨hcc, hff, HA, hne, hne'⟩ := blater1 hb6)); (try simp only [World.size_alloc, World.size_setCell] at HA); have z0 : w6.cell? ⟨bR, 0, none⟩ = some (.int .i64 a) := (by simp [go_sem, *]); have z1 : w6.cell? ⟨bR, 1, none⟩ = some (.int .i64 b) := (by simp [go_sem, *]); have z2 : w6.cell? ⟨bR, 2, none⟩ = some (.int .i64 c) := (by simp [go_sem, *])))
    all_goals (go_wp2_with fail; go_meet; go_light)
    · refine ⟨rfl, pA, cA, _, rfl, rfl, by omega, by simp, by simp [go_sem], by simp [go_sem], by simp [go_sem], hrA.later (by repeat' (first | exact Below.refl _ _ | refine Below.drew ?_ | refine below_drewN ?_ _ | refine Below.alloc ?_ (by first | omega | (simp <;> omega)) _ | refine Below.setCell ?_ (by first | omega | (simp <;> omega)) _ | refine Below.trans ?_ (Below.mono (by assumption) (by first | omega | (simp <;> omega))))), ?_⟩
      repeat' (first | exact Below.refl _ _ | refine Below.drew ?_ | refine below_drewN ?_ _ | refine Below.alloc ?_ (by first | omega | (simp <;> omega)) _ | refine Below.setCell ?_ (by first | omega | (simp <;> omega)) _ | refine Below.trans ?_ (Below.mono (by assumption) (by first | omega | (simp <;> omega))))
    · refine ⟨rfl, pA, cA, _, rfl, rfl, by omega, by simp; omega, by simp [go_sem, *], by simp [go_sem, *], by simp [go_sem, *], ?_, ?_⟩
      · refine ((hrA.other_o ?_ _).other_o ?_ _).other_o ?_ _
        all_goals (intro g hg; have := hgA g (own_map_o hg); (try simp at this); (try simp); omega)
      · repeat' (first | exact Below.refl _ _ | refine Below.drew ?_ | refine below_drewN ?_ _ | refine Below.alloc ?_ (by first | omega | (simp <;> omega)) _ | refine Below.setCell ?_ (by first | omega | (simp <;> omega)) _ | refine Below.trans ?_ (Below.mono (by assumption) (by first | omega | (simp <;> omega))))
  case rest =>
    obtain ⟨rfl, pA, cA, BX, rfl, rfl, hX1, hX2, y0, y1', y2', hrA, hbc⟩ := hcut
    obtain ⟨w7, rfl⟩ : ∃ x, x = wc := ⟨_, rfl⟩
    have hbR := HX1.out
    have v0 := (hbc.cell (p := ⟨bR, 0, none⟩) hbR).trans u0
    have v1 := (hbc.cell (p := ⟨bR, 1, none⟩) hbR).trans u1
    have v2 := (hbc.cell (p := ⟨bR, 2, none⟩) hbR).trans u2
    have hQ7 := hQ.later hbc
    have B7 : Below w.heap.size w w7 := HB5.trans (hbc.mono HBW.out)
    have HBW7 := Lib.hid B7.size
    have hsc := hbc.size
    have HX7 := Lib.hid (show bR < w7.heap.size by omega)
    have HV7 := Lib.hid (And.intro v0 (And.intro v1 v2))
    have HAr : ∀ n, n = BX → n < w7.heap.size := fun n h => by omega
    clear HA
    have HA := HAr
    have hn5 : ¬ w7.heap.size = BX := by omega
    have hn5' : ¬ BX = w7.heap.size := by omega
    clear v0 v1 v2 u0 u1 u2 hQ HB5 HBW HX1 hbc hsc hbR hn3 hn3' hX1 hX2 HAr qN1 hs1'
    go_wp2
    go_cut [17, 18, 19] (fun a15 a16 a12 wx => a12 = .int .i64 0 ∧ ∃ (pA : Option Addr) (cA BX : Nat), a15 = .slice pA D2.length cA ∧ a16 = .pointer (some ⟨BX, 0, none⟩) ∧ w7.heap.size ≤ BX ∧ BX < wx.heap.size ∧ wx.cell? ⟨BX, 0, none⟩ = some (.int .i64 y1) ∧ wx.cell? ⟨BX, 1, none⟩ = some (.int .i64 y2) ∧ wx.cell? ⟨BX, 2, none⟩ = some (.int .i64 y3) ∧ Row .i64 wx pA D2 ∧ Below w7.heap.size w7 wx)
    case first =>
      go_region_held3 (fun w' => w'.cell? ⟨BX, 0, none⟩ = some (.int .i64 x1) ∧ w'.cell? ⟨BX, 1, none⟩ = some (.int .i64 x2) ∧ w'.cell? ⟨BX, 2, none⟩ = some (.int .i64 x3)) (first | (simp [go_sem, *]; done) | go_keep) ((go_at_call 34; refine (qN2 _ _ _ ((hQ7.later (by repeat' (first | exact Below.refl _ _ | refine Below.drew ?_ | refine below_drewN ?_ _ | refine Below.alloc ?_ (by first | omega | (simp <;> omega)) _ | refine Below.setCell ?_ (by first | omega | (simp <;> omega)) _ | refine Below.trans ?_ (Below.mono (by assumption) (by first | omega | (simp <;> omega)))))).drop k cQ hcA)).mono ?_; rintro e w6 ⟨pA, cA, rfl, hgA, hrA, hb6⟩; have hsz := hb6.size; (try simp at hsz); (first | (have hbl := blater2 HA (by first | exact Nat.le_refl _ | (simp; done) | (simp; omega)) hb6; obtain ⟨hcc, hff, HA, hne, hne'⟩ := hbl) | (obtain ⟨hcc, hff, HA, hne, hne'⟩ := blater1 hb6)); (try simp only [World.size_alloc, World.size_setCell] at HA); have z0 : w6.cell? ⟨BX, 0, none⟩ = some (.int .i64 x1) := (by simp [go_sem, *]); have z1 : w6.cell? ⟨BX, 1, none⟩ = some (.int .i64 x2) := (by simp [go_sem, *]); have z2 : w6.cell? ⟨BX, 2, none⟩ = some (.int .i64 x3) := (by simp [go_sem, *])))
      all_goals (go_wp2_with fail; go_meet; go_light)
      · refine ⟨rfl, pA, cA, _, rfl, rfl, by omega, by simp, by simp [go_sem], by simp [go_sem], by simp [go_sem], hrA.later (by repeat' (first | exact Below.refl _ _ | refine Below.drew ?_ | refine below_drewN ?_ _ | refine Below.alloc ?_ (by first | omega | (simp <;> omega)) _ | refine Below.setCell ?_ (by first | omega | (simp <;> omega)) _ | refine Below.trans ?_ (Below.mono (by assumption) (by first | omega | (simp <;> omega))))), ?_⟩
        repeat' (first | exact Below.refl _ _ | refine Below.drew ?_ | refine below_drewN ?_ _ | refine Below.alloc ?_ (by first | omega | (simp <;> omega)) _ | refine Below.setCell ?_ (by first | omega | (simp <;> omega)) _ | refine Below.trans ?_ (Below.mono (by assumption) (by first | omega | (simp <;> omega))))
      · refine ⟨rfl, pA, cA, _, rfl, rfl, by omega, by simp; omega, by simp [go_sem, *], by simp [go_sem, *], by simp [go_sem, *], ?_, ?_⟩
        · refine ((hrA.other_o ?_ _).other_o ?_ _).other_o ?_ _
          all_goals (intro g hg; have := hgA g (own_map_o hg); (try simp at this); (try simp); omega)
        · repeat' (first | exact Below.refl _ _ | refine Below.drew ?_ | refine below_drewN ?_ _ | refine Below.alloc ?_ (by first | omega | (simp <;> omega)) _ | refine Below.setCell ?_ (by first | omega | (simp <;> omega)) _ | refine Below.trans ?_ (Below.mono (by assumption) (by first | omega | (simp <;> omega))))
    case rest =>
      obtain ⟨rfl, pC, cC, BY, rfl, rfl, hX1, hX2, m0, m1, m2, hrC, hbc⟩ := hcut
      obtain ⟨w8, rfl⟩ : ∃ x, x = wc := ⟨_, rfl⟩
      have v0 := (hbc.cell (p := ⟨bR, 0, none⟩) HX7.out).trans HV7.out.1
      have v1 := (hbc.cell (p := ⟨bR, 1, none⟩) HX7.out).trans HV7.out.2.1
      have v2 := (hbc.cell (p := ⟨bR, 2, none⟩) HX7.out).trans HV7.out.2.2
      have hQ8 := hQ7.later hbc
      have hrA8 := hrA.later hbc
      have B8 : Below w.heap.size w w8 := B7.trans (hbc.mono HBW7.out)
      have hw8 := B8.size
      obtain ⟨i3, hi3, hz0, hz1, hz2⟩ := info_parts info3
      clear HA hn5 hn5' y0 y1' y2' hrA hQ7 hbc B7 HBW7 HX7 HV7 qN2 hs2' hX1
      have hlY : BY < w8.heap.size := hX2
      have hl1 : D1.length + D2.length = DS.length := by rw [← hDD.out, List.length_append]
      have hOwn0 : ((w8.alloc (.cells #[] 3)).ownsRow w8.heap.size 3 1 (.slice (some ⟨w8.heap.size, 0, none⟩) 0 0) 0 []) := ownsRow_made w8 3
      clear hOwn0
      have OW := fun (X : World) => ownsRow_made X 3
      go_wp2_with (first | (go_at_call 34; refine (qN3 _ _ _ hQ8).mono ?_; rintro e w9 ⟨pE, cE, rfl, _, hrE, hb9⟩; have hs9 := hb9.size; have o0 : w9.cell? ⟨BY, 0, none⟩ = some (.int .i64 y1) := (hb9.cell (p := ⟨BY, 0, none⟩) (by simp <;> omega)).trans (by simp [go_sem, *]); have o1 : w9.cell? ⟨BY, 1, none⟩ = some (.int .i64 y2) := (hb9.cell (p := ⟨BY, 1, none⟩) (by simp <;> omega)).trans (by simp [go_sem, *]); have o2 : w9.cell? ⟨BY, 2, none⟩ = some (.int .i64 y3) := (hb9.cell (p := ⟨BY, 2, none⟩) (by simp <;> omega)).trans (by simp [go_sem, *]); have hlY9 : BY < w9.heap.size := (by omega); have hlY9' : ¬ BY = w9.heap.size := (by omega); have hrA9 := hrA8.later hb9; have hrC9 := hrC.later hb9; have B9 : Below w.heap.size w w9 := B8.trans (hb9.mono hw8); have hw9 := B9.size; have OW1 := Lib.hid (OW (w9.alloc (.cells #[.int .i64 y1, .int .i64 y2, .int .i64 y3] 23))); clear v0 v1 v2 m0 m1 m2 hrA8 hrC hQ8) | (at_builtin; refine wpList_append_any_g _ (by first | rfl | (simp [Region.wanted, yielded]; done)) _ _ 38 rfl (w9.heap.size + 1) 3 i3 (.int .i64 0) 1 8 Try.underlying38 hi3 hz0 hz1 hz2 rfl (by decide) (.slice (some ⟨w9.heap.size + 1, 0, none⟩) 0 0) 0 [] rfl (by simpa using OW1.out) pA D1.length cA (D1.map (Value.int .i64)) rfl (by simp) (Row.vals (hrA9.later (by repeat' (first | exact Below.refl _ _ | refine Below.drew ?_ | refine below_drewN ?_ _ | refine Below.alloc ?_ (by first | omega | (simp <;> omega)) _ | refine Below.setCell ?_ (by first | omega | (simp <;> omega)) _ | refine Below.trans ?_ (Below.mono (by assumption) (by first | omega | (simp <;> omega))))))) (ints_one _ _) (by unfold maxLen; omega) (by omega) (by simp) (by simp) ?_; intro v1 w10 hown1 hgrow1 hv1; have HW1 := Lib.hid hown1; have hgs1 := hgrow1.size; (simp at hgs1); have HB10 : Below (w9.heap.size + 1) (w9.alloc (.cells #[.int .i64 y1, .int .i64 y2, .int .i64 y3] 23)) w10 := ((Below.refl _ _).alloc (by simp) _).grown hgrow1 (by simp) (fun g hg => by simp [Value.ownBlock] at hg; omega); have HC10 : Below w9.heap.size w9 w10 := ((Below.refl _ w9).alloc (Nat.le_refl _) _).trans (HB10.mono (by omega)); have ho1 := own_base_o HW1.out; clear hown1) | (at_builtin; refine wpList_append_any_g _ (by first | rfl | (simp [Region.wanted, yielded]; done)) _ _ 38 rfl (w9.heap.size + 1) 3 i3 (.int .i64 0) 1 8 Try.underlying38 hi3 hz0 hz1 hz2 rfl (by decide) v1 _ _ rfl HW1.out pC D2.length cC (D2.map (Value.int .i64)) rfl (by simp) (Row.vals (hrC9.later HC10)) (ints_one _ _) (by unfold maxLen; omega) (by omega) (by omega) hv1 ?_; intro v2 w11 hown2 hgrow2 hv2; have hgs2 := hgrow2.size; rw [show 0 + D1.length + D2.length = DS.length by omega, List.nil_append, ← List.map_append, hDD.out] at hown2; obtain ⟨a2, c2, rfl⟩ := own_slice_o hown2; have hr2 := Lib.hid (Row.of_own_slice (k := .i64) hown2); have HC11 : Below w9.heap.size w9 w11 := HC10.grown hgrow2 (by omega) (fun g hg => by have := ho1 g hg; omega); clear hown2) | (go_at_call 32; refine (kn_same _ _ DS _ _ _ _ hr2.out (hrE.later HC11) rfl (by omega)).mono ?_; rintro e w12 ⟨rfl, hb12⟩; have HC12 := HC11.trans (hb12.mono HC11.size)) | (go_at_call 25; refine (awake19 _).mono ?_; rintro e w13 ⟨rfl, hb13⟩; have HC13 := HC12.trans (hb13.mono HC12.size)))
      all_goals go_light
      all_goals (refine bodyPost_ret (v := .bool true) (by simp [results, Try.results8, go_sem, *]) rfl ⟨rfl, ?_⟩; exact B9.trans (HC13.mono hw9))

theorem rask_next {a b c v l : Int} (hc : chkL true [a, b, c] = 0) (h : (Rask a b c v l).2.2 = 0) : chkL true [(Rask a b c v l).2.1.1, (Rask a b c v l).2.1.2.1, (Rask a b c v l).2.1.2.2] = 0 := by
  by_cases h1 : v < 1 ∨ 2147483651 < v ∨ l < 0
  · rw [rask_range hc h1] at h
    simp at h
  · by_cases h2 : (Rmean a b c v l).2.2 = 0
    · rw [rask_ok hc h1 h2]
      exact (rmean_ok hc (by omega) (by omega) (by omega) h2).2.2.2.1
    · rw [rask_err hc h1 h2] at h
      exact absurd h h2
theorem rput_err0 {vs : List Int} {r : List Int × (Int × Int × Int) × Int} (h : (rput vs r).2.2 = 0) : r.2.2 = 0 := by
  by_cases h1 : r.2.2 = 0
  · exact h1
  · unfold rput at h
    rw [if_pos h1] at h
    exact absurd h h1
theorem rput_zero {vs : List Int} {r : List Int × (Int × Int × Int) × Int} (h : r.2.2 = 0) : rput vs r = (vs ++ r.1, r.2.1, 0) := by
  unfold rput
  rw [if_neg (by simpa using h)]
theorem rruns_split : ∀ (qs rs : List (Int × Int × Int)) (a b c : Int), (rruns a b c (qs ++ rs)).2.2 = 0 → (rruns a b c qs).2.2 = 0
  | [], rs, a, b, c, _ => rfl
  | q :: qs, rs, a, b, c, h => by
    rw [List.cons_append, rruns] at h
    by_cases h1 : (Rask a b c q.2.2 q.1).2.2 = 0
    · rw [if_neg (by simpa using h1)] at h
      have ih := rruns_split qs rs _ _ _ (rput_err0 h)
      rw [rruns, if_neg (by simpa using h1), rput_zero ih]
    · rw [if_pos h1] at h
      exact absurd h h1
theorem rruns_chk : ∀ (qs : List (Int × Int × Int)) (a b c : Int), chkL true [a, b, c] = 0 → (rruns a b c qs).2.2 = 0 → chkL true [(rruns a b c qs).2.1.1, (rruns a b c qs).2.1.2.1, (rruns a b c qs).2.1.2.2] = 0
  | [], a, b, c, hc, _ => hc
  | q :: qs, a, b, c, hc, h => by
    by_cases h1 : (Rask a b c q.2.2 q.1).2.2 = 0
    · have e : rruns a b c (q :: qs) = rput [(Rask a b c q.2.2 q.1).1] (rruns (Rask a b c q.2.2 q.1).2.1.1 (Rask a b c q.2.2 q.1).2.1.2.1 (Rask a b c q.2.2 q.1).2.1.2.2 qs) := by rw [rruns, if_neg (by simpa using h1)]
      rw [e] at h ⊢
      have h2 := rput_err0 h
      rw [rput_zero h2]
      exact rruns_chk qs _ _ _ (rask_next hc h1) h2
    · rw [rruns, if_pos h1] at h
      exact absurd h h1
theorem parts_split {a b c y1 y2 y3 : Int} {Q : List (Int × Int × Int)} {DS : List Int} (hc : chkL true [a, b, c] = 0) (hl : Q.length ≤ 100000) (h : Rruns a b c Q = (DS, (y1, y2, y3), 0)) (k : Nat) :
    ∃ D1 D2 x1 x2 x3, D1 ++ D2 = DS ∧ Rruns a b c (Q.take k) = (D1, (x1, x2, x3), 0) ∧ Rruns x1 x2 x3 (Q.drop k) = (D2, (y1, y2, y3), 0) := by
  have e : ∀ (a b c : Int) (qs : List (Int × Int × Int)), chkL true [a, b, c] = 0 → qs.length ≤ 100000 → Rruns a b c qs = rruns a b c qs := fun a b c qs h1 h2 => by
    unfold Rruns
    rw [if_neg (by simpa using h1), if_neg (by omega)]
  rw [e a b c Q hc hl] at h
  have h0 : (rruns a b c (Q.take k ++ Q.drop k)).2.2 = 0 := by rw [List.take_append_drop, h]
  have h1 := rruns_split _ _ _ _ _ h0
  have h2 := rruns_chk _ _ _ _ hc h1
  have h3 := rruns_append (Q.take k) (Q.drop k) a b c h1
  rw [List.take_append_drop, h] at h3
  obtain ⟨⟨D1, ⟨x1, x2, x3⟩, x4⟩, hT⟩ : ∃ T, rruns a b c (Q.take k) = T := ⟨_, rfl⟩
  rw [hT] at h1 h2 h3
  dsimp only at h1 h2 h3
  subst h1
  have h4 : (rruns x1 x2 x3 (Q.drop k)).2.2 = 0 := rput_err0 (vs := D1) (by rw [← h3])
  rw [rput_zero h4] at h3
  obtain ⟨⟨D2, ⟨z1, z2, z3⟩, z4⟩, hU⟩ : ∃ T, rruns x1 x2 x3 (Q.drop k) = T := ⟨_, rfl⟩
  rw [hU] at h3 h4
  simp only [Prod.mk.injEq] at h3
  dsimp only at h4
  obtain ⟨g1, ⟨g2, g3, g4⟩, _⟩ := h3
  refine ⟨D1, D2, x1, x2, x3, g1.symm, ?_, ?_⟩
  · rw [e a b c _ hc (by rw [List.length_take]; omega), hT]
  · rw [e x1 x2 x3 _ h2 (by rw [List.length_drop]; omega), hU, g2, g3, g4, h4]
theorem repsParts_w (n : Int) (pn : Option Addr) (ns : List Int) (cn : Nat) (A : Int) (w : World) (ha : Row .i64 w pn ns) (hl : ns.length ≤ 9223372036854775807) :
    Calls Try.prog 8 #[.int .i64 n, .slice pn ns.length cn, .int .i64 A] w fun e w' => e = .returned (.bool true) ∧ Below w.heap.size w w' := by
  have hR := fun w => reps_k n w
  have hc := kR_chk (n % 1073741824) (Int.emod_nonneg n (by omega))
  generalize kR (n % 1073741824) 0 = a at hR hc
  generalize kR (n % 1073741824) 1 = b at hR hc
  generalize kR (n % 1073741824) 2 = c at hR hc
  have hd := gds_len ns
  have hg := gls_len ns
  obtain ⟨VS, e1, e2, e3, u1, u2, u3, h1, h2, h3, _⟩ := values_back hc hc (wide_refl _) hg (by omega) (gds_bd ns) (gls_nn ns)
  have hq : (mkq VS (gls ns)).length = (gds ns).length := by rw [mkq_len]; omega
  have m0 := Int.emod_nonneg A (b := ((mkq VS (gls ns)).length : Int) + 1) (by omega)
  have m1 := Int.emod_lt_of_pos A (b := ((mkq VS (gls ns)).length : Int) + 1) (by omega)
  obtain ⟨k, hk⟩ : ∃ k : Nat, A % (((mkq VS (gls ns)).length : Int) + 1) = (k : Int) := ⟨(A % (((mkq VS (gls ns)).length : Int) + 1)).toNat, by omega⟩
  obtain ⟨D1, D2, x1, x2, x3, s1, s2, s3⟩ := parts_split hc (by omega) h3 k
  refine parts_1 a b c e1 e2 e3 x1 x2 x3 e1 e2 e3 A n k (gds ns) (gls ns) VS D1 D2 (mkq VS (gls ns)) pn ns cn w ha hd (by rw [hq]; simp) (by omega) (by omega) (Lib.hid s1) hR (fun w h => given_p pn ns cn w h hl) ?_ ?_ ?_ ?_ ?_ ?_
  · intro w pd pl cd cl hd hl
    have := values_p a b c pd pl (gds ns) (gls ns) cd cl w hd hl (by omega)
    rwa [h1] at this
  · intro w pv pl cv cl hv hl
    exact seqs_p pv pl VS (gls ns) cv cl w hv hl (by omega) (by omega)
  · intro w
    have := mod_k A (((mkq VS (gls ns)).length : Int) + 1) (by omega) (by omega) w
    rwa [hk] at this
  · intro w pq cq hq2
    have := run_p a b c pq ((mkq VS (gls ns)).take k) cq w hq2 (by rw [List.length_take]; omega)
    rw [s2, List.length_take, Nat.min_eq_left (by omega)] at this
    exact this
  · intro w pq cq hq2
    have := run_p x1 x2 x3 pq ((mkq VS (gls ns)).drop k) cq w hq2 (by rw [List.length_drop]; omega)
    rw [s3, List.length_drop] at this
    exact this
  · intro w pq cq hq2
    have := run_p a b c pq (mkq VS (gls ns)) cq w hq2 (by omega)
    rwa [h3] at this
end Go.Proofs.Ytenhglamnpmkaaa
