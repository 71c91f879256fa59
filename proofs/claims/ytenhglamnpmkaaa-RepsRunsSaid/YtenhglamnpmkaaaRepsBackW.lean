/-
  RepsBack, walked.
-/
import Derived.Test.YtenhglamnpmkaaaRows
import Derived.Test.YtenhglamnpmkaaaRepsRun
import Derived.Test.YtenhglamnpmkaaaRepsMake
import Derived.Test.YtenhglamnpmkaaaRepsSmall
import Derived.Test.YtenhglamnpmkaaaRepsValues
import Derived.WalkMore
import Derived.Test.YtenhglamnpmkaaaCommon
import Derived.Deep.Light
import Derived.Shelf.Abstract
import Derived.Shelf.RegionOpen
import Derived.OwnWalkIn
import Derived.TacticsInMore
import Derived.LoopNIn
import Derived.LoopIn
namespace Go.Proofs.Ytenhglamnpmkaaa
open Go.RowKit
set_option linter.unusedSimpArgs false
set_option linter.unusedVariables false
open Go.Shelf
attribute [local go_sem] eq23 idx23_0 idx23_1 idx23_2 Oper.semAt_some

theorem Row.other_o {k : IntKind} {w : World} {pa : Option Addr} {xs : List Int} (h : Row k w pa xs) {a : Addr} (ha : ∀ g, (pa.map (·.block)) = some g → a.block ≠ g) (v : Value) : Row k (w.setCell a v) pa xs := by
  rcases h with h | ⟨b, off, rfl, hlt, hc⟩
  · exact .inl h
  · have hne := ha b rfl
    refine .inr ⟨b, off, rfl, by simpa using hlt, fun i hi => ?_⟩
    rw [← hc i hi]
    simp [World.cell?, World.setCell, Array.getElem?_modify, hne]
theorem own_map_o {pa : Option Addr} {n c : Nat} {g : Nat} (h : pa.map (·.block) = some g) : (Value.slice pa n c).ownBlock = some g := by
  cases pa with
  | none => simp at h
  | some a => simpa [Value.ownBlock] using h
/-- A history of which so many places are filled. -/
def Fil (w : World) (bF : Nat) (a b c fa fb fc : Int) (i : Nat) : Prop := Hist w bF (if 0 < i then fa else a, if 1 < i then fb else b, if 2 < i then fc else c)
set_option maxRecDepth 100000 in
set_option maxHeartbeats 4000000 in
theorem back_1 (a b c fa fb fc e1 e2 e3 u1 u2 u3 A B C n : Int) (DS LS VS : List Int) (pn : Option Addr) (ns : List Int) (cn : Nat) (w : World) (ha : Row .i64 w pn ns)
    (hd1 : DS.length ≤ 20) (hd2 : LS.length = DS.length) (hd3 : VS.length = DS.length)
    (h1 : (a = 0 ∧ fa = 1 + A % 1048576) ∨ (a ≠ 0 ∧ fa = a)) (h2 : (b = 0 ∧ fb = 1 + B % 1048576) ∨ (b ≠ 0 ∧ fb = b)) (h3 : (c = 0 ∧ fc = 1 + C % 1048576) ∨ (c ≠ 0 ∧ fc = c))
    (qR : ∀ w, Calls Try.prog 26 #[.int .i64 n] w fun e w' => e = .returned (.agg #[.int .i64 a, .int .i64 b, .int .i64 c]) ∧ Below w.heap.size w w')
    (qG : ∀ w, Row .i64 w pn ns → Calls Try.prog 38 #[.slice pn ns.length cn] w (TwoPost DS LS w))
    (qV : ∀ w pd pl cd cl, Row .i64 w pd DS → Row .i64 w pl LS → Calls Try.prog 31 #[.agg #[.int .i64 a, .int .i64 b, .int .i64 c], .slice pd DS.length cd, .slice pl LS.length cl] w (RunPost (VS, (e1, e2, e3), 0) w))
    (qS : ∀ w pv pl cv cl, Row .i64 w pv VS → Row .i64 w pl LS → Calls Try.prog 39 #[.slice pv VS.length cv, .slice pl LS.length cl] w (SeqPost (mkq VS LS) w))
    (qN : ∀ w pq cq, RowQ w pq (mkq VS LS) → Calls Try.prog 34 #[.agg #[.int .i64 a, .int .i64 b, .int .i64 c], .slice pq (mkq VS LS).length cq] w (RunPost2 (DS, (e1, e2, e3), 0) w))
    (qN2 : ∀ w pq cq, RowQ w pq (mkq VS LS) → Calls Try.prog 34 #[.agg #[.int .i64 fa, .int .i64 fb, .int .i64 fc], .slice pq (mkq VS LS).length cq] w (RunPost2 (DS, (u1, u2, u3), 0) w)) :
    Calls Try.prog 7 #[.int .i64 n, .slice pn ns.length cn, .int .i64 A, .int .i64 B, .int .i64 C] w fun e w' => e = .returned (.bool true) ∧ Below w.heap.size w w' := by
  have HD2 := Lib.hid hd2
  have HD3 := Lib.hid hd3
  have H1 := Lib.hid h1
  have H2 := Lib.hid h2
  have H3 := Lib.hid h3
  clear hd2 hd3 h1 h2 h3
  go_enter Try.func7, Try.ntmps7
  go_wp2_with (first | (go_at_call 26; refine (qR _).mono ?_; rintro e w1 ⟨rfl, hb1⟩; have hs1 := hb1.size) | (go_at_call 38; refine (qG _ (ha.later (by repeat' (first | exact Below.refl _ _ | refine Below.drew ?_ | refine below_drewN ?_ _ | refine Below.alloc ?_ (by first | omega | (simp <;> omega)) _ | refine Below.setCell ?_ (by first | omega | (simp <;> omega)) _ | refine Below.trans ?_ (Below.mono (by assumption) (by first | omega | (simp <;> omega))))))).mono ?_; rintro e w2 ⟨p1, k1, p2, k2, rfl, hrD, hrL, hb2⟩; have hs2 := hb2.size; (simp at hs2); have r0 : w2.cell? ⟨w1.heap.size, 0, none⟩ = some (.int .i64 a) := (hb2.cell (p := ⟨w1.heap.size, 0, none⟩) (by simp <;> omega)).trans (by simp [go_sem, *]); have r1 : w2.cell? ⟨w1.heap.size, 1, none⟩ = some (.int .i64 b) := (hb2.cell (p := ⟨w1.heap.size, 1, none⟩) (by simp <;> omega)).trans (by simp [go_sem, *]); have r2 : w2.cell? ⟨w1.heap.size, 2, none⟩ = some (.int .i64 c) := (hb2.cell (p := ⟨w1.heap.size, 2, none⟩) (by simp <;> omega)).trans (by simp [go_sem, *]); have HB2 : Below w.heap.size w w2 := (by repeat' (first | exact Below.refl _ _ | refine Below.drew ?_ | refine below_drewN ?_ _ | refine Below.alloc ?_ (by first | omega | (simp <;> omega)) _ | refine Below.setCell ?_ (by first | omega | (simp <;> omega)) _ | refine Below.trans ?_ (Below.mono (by assumption) (by first | omega | (simp <;> omega)))))) | (go_at_call 31; refine (qV _ _ _ _ _ hrD hrL).mono ?_; rintro e w3 ⟨pV, cV, rfl, hrV, hb3⟩; have hs3 := hb3.size; have s0 : w3.cell? ⟨w1.heap.size, 0, none⟩ = some (.int .i64 a) := (hb3.cell (p := ⟨w1.heap.size, 0, none⟩) (by simp <;> omega)).trans (by simp [go_sem, *]); have s1 : w3.cell? ⟨w1.heap.size, 1, none⟩ = some (.int .i64 b) := (hb3.cell (p := ⟨w1.heap.size, 1, none⟩) (by simp <;> omega)).trans (by simp [go_sem, *]); have s2 : w3.cell? ⟨w1.heap.size, 2, none⟩ = some (.int .i64 c) := (hb3.cell (p := ⟨w1.heap.size, 2, none⟩) (by simp <;> omega)).trans (by simp [go_sem, *]); have hrD3 := hrD.later hb3; have hrL3 := hrL.later hb3; have HB3 : Below w.heap.size w w3 := HB2.trans (hb3.mono (by omega)); clear r0 r1 r2 hrD hrL HB2))
  obtain ⟨bR, hbR⟩ : ∃ x, w1.heap.size = x := ⟨_, rfl⟩
  obtain ⟨bL, hbL⟩ : ∃ x, w3.heap.size = x := ⟨_, rfl⟩
  rw [hbR] at s0 s1 s2
  have x1 : bR < bL := by omega
  have x2 : ¬ bR = bL := by omega
  have x3 : ¬ bL = bR := by omega
  obtain ⟨W3, hW3⟩ : ∃ W3, w3.alloc (.cells #[.int .i64 e1, .int .i64 e2, .int .i64 e3] 23) = W3 := ⟨_, rfl⟩
  have hal : Below w3.heap.size w3 W3 := by rw [← hW3]; exact (Below.refl _ _).alloc (Nat.le_refl _) _
  have hsW : W3.heap.size = bL + 1 := by rw [← hW3]; simp [hbL]
  have t0 : W3.cell? ⟨bR, 0, none⟩ = some (.int .i64 a) := (hal.cell (p := ⟨bR, 0, none⟩) (by simp; omega)).trans s0
  have t1 : W3.cell? ⟨bR, 1, none⟩ = some (.int .i64 b) := (hal.cell (p := ⟨bR, 1, none⟩) (by simp; omega)).trans s1
  have t2 : W3.cell? ⟨bR, 2, none⟩ = some (.int .i64 c) := (hal.cell (p := ⟨bR, 2, none⟩) (by simp; omega)).trans s2
  have l0 : W3.cell? ⟨bL, 0, none⟩ = some (.int .i64 e1) := by rw [← hW3, ← hbL]; simp [go_sem]
  have l1 : W3.cell? ⟨bL, 1, none⟩ = some (.int .i64 e2) := by rw [← hW3, ← hbL]; simp [go_sem]
  have l2 : W3.cell? ⟨bL, 2, none⟩ = some (.int .i64 e3) := by rw [← hW3, ← hbL]; simp [go_sem]
  have hV := hrV.later hal
  have hD := hrD3.later hal
  have hL := hrL3.later hal
  have B3 : Below w.heap.size w W3 := HB3.trans (hal.mono (by omega))
  have bR0 : w.heap.size ≤ bR := by omega
  rw [hW3]
  (try simp only [hbR, hbL])
  clear hW3 hal s0 s1 s2 hrV hrD3 hrL3 HB3 hb1 hb2 hb3 hs1 hs2 hs3 hbR hbL
  have HA : ∀ n, n = bR → n < W3.heap.size := fun n h => by omega
  have hn3 : ¬ W3.heap.size = bR := by omega
  have hn3' : ¬ bR = W3.heap.size := by omega
  have X1 := Lib.hid x1
  clear x1 x2 x3 bR0
  have HSW := Lib.hid hsW
  have HL1 := Lib.hid (And.intro l0 (And.intro l1 l2))
  clear hsW l0 l1 l2
  go_cut [17, 18, 19] (fun s17 s18 s19 wx => s19 = .int .i64 0 ∧ ∃ (pB : Option Addr) (cB BX : Nat), s17 = .slice pB DS.length cB ∧ s18 = .pointer (some ⟨BX, 0, none⟩) ∧ W3.heap.size ≤ BX ∧ BX < wx.heap.size ∧ wx.cell? ⟨BX, 0, none⟩ = some (.int .i64 e1) ∧ wx.cell? ⟨BX, 1, none⟩ = some (.int .i64 e2) ∧ wx.cell? ⟨BX, 2, none⟩ = some (.int .i64 e3) ∧ Row .i64 wx pB DS ∧ Below W3.heap.size W3 wx)
  case first =>
    go_region_held3 (fun w' => w'.cell? ⟨bR, 0, none⟩ = some (.int .i64 a) ∧ w'.cell? ⟨bR, 1, none⟩ = some (.int .i64 b) ∧ w'.cell? ⟨bR, 2, none⟩ = some (.int .i64 c)) (first | (simp [go_sem, *]; done) | go_keep) (first | (go_at_call 39; refine (qS _ _ _ _ _ (hV.later (by repeat' (first | exact Below.refl _ _ | refine Below.drew ?_ | refine below_drewN ?_ _ | refine Below.alloc ?_ (by first | omega | (simp <;> omega)) _ | refine Below.setCell ?_ (by first | omega | (simp <;> omega)) _ | refine Below.trans ?_ (Below.mono (by assumption) (by first | omega | (simp <;> omega)))))) (hL.later (by repeat' (first | exact Below.refl _ _ | refine Below.drew ?_ | refine below_drewN ?_ _ | refine Below.alloc ?_ (by first | omega | (simp <;> omega)) _ | refine Below.setCell ?_ (by first | omega | (simp <;> omega)) _ | refine Below.trans ?_ (Below.mono (by assumption) (by first | omega | (simp <;> omega))))))).mono ?_; rintro e w4 ⟨pQ, cQ, rfl, hrQ, _, hb4⟩; have hsz := hb4.size; (try simp at hsz); (first | (have hbl := blater2 HA (by first | exact Nat.le_refl _ | (simp; done) | (simp; omega)) hb4; obtain ⟨hcc, hff, HA, hne, hne'⟩ := hbl) | (obtain ⟨hcc, hff, HA, hne, hne'⟩ := blater1 hb4)); (try simp only [World.size_alloc, World.size_setCell] at HA); have hcd := (fun b o h => hcc b o (Or.inr h)); have hfd := (fun b o h => hff b o (Or.inr h)); have hn4 : ¬ w4.heap.size = bR := hne' bR (Or.inl rfl); have hn4' : ¬ bR = w4.heap.size := hne bR (Or.inl rfl); have y0 : w4.cell? ⟨bR, 0, none⟩ = some (.int .i64 a) := (by simp [go_sem, *]); have y1 : w4.cell? ⟨bR, 1, none⟩ = some (.int .i64 b) := (by simp [go_sem, *]); have y2 : w4.cell? ⟨bR, 2, none⟩ = some (.int .i64 c) := (by simp [go_sem, *])) | (go_at_call 34; refine (qN _ _ _ (hrQ.later (by repeat' (first | exact Below.refl _ _ | refine Below.drew ?_ | refine below_drewN ?_ _ | refine Below.alloc ?_ (by first | omega | (simp <;> omega)) _ | refine Below.setCell ?_ (by first | omega | (simp <;> omega)) _ | refine Below.trans ?_ (Below.mono (by assumption) (by first | omega | (simp <;> omega))))))).mono ?_; rintro e w5 ⟨pB, cB, rfl, hgB, hrB, hb5⟩; have hsz := hb5.size; (try simp at hsz); (first | (have hbl := blater2 HA (by first | exact Nat.le_refl _ | (simp; done) | (simp; omega)) hb5; obtain ⟨hcc, hff, HA, hne, hne'⟩ := hbl) | (obtain ⟨hcc, hff, HA, hne, hne'⟩ := blater1 hb5)); (try simp only [World.size_alloc, World.size_setCell] at HA); have hcd := (fun b o h => hcc b o (Or.inr h)); have hfd := (fun b o h => hff b o (Or.inr h)); have hce := (fun b o h => hcc b o (Or.inl (Or.inr h))); have hfe := (fun b o h => hff b o (Or.inl (Or.inr h))); have z0 : w5.cell? ⟨bR, 0, none⟩ = some (.int .i64 a) := (by simp [go_sem, *]); have z1 : w5.cell? ⟨bR, 1, none⟩ = some (.int .i64 b) := (by simp [go_sem, *]); have z2 : w5.cell? ⟨bR, 2, none⟩ = some (.int .i64 c) := (by simp [go_sem, *])))
    all_goals (go_wp2_with fail; go_meet; go_light)
    · refine ⟨rfl, pB, cB, _, rfl, rfl, by omega, by simp, by simp [go_sem], by simp [go_sem], by simp [go_sem], hrB.later (by repeat' (first | exact Below.refl _ _ | refine Below.drew ?_ | refine below_drewN ?_ _ | refine Below.alloc ?_ (by first | omega | (simp <;> omega)) _ | refine Below.setCell ?_ (by first | omega | (simp <;> omega)) _ | refine Below.trans ?_ (Below.mono (by assumption) (by first | omega | (simp <;> omega))))), ?_⟩
      repeat' (first | exact Below.refl _ _ | refine Below.drew ?_ | refine below_drewN ?_ _ | refine Below.alloc ?_ (by first | omega | (simp <;> omega)) _ | refine Below.setCell ?_ (by first | omega | (simp <;> omega)) _ | refine Below.trans ?_ (Below.mono (by assumption) (by first | omega | (simp <;> omega))))
    · refine ⟨rfl, pB, cB, _, rfl, rfl, by omega, by simp; omega, by simp [go_sem, *], by simp [go_sem, *], by simp [go_sem, *], ?_, ?_⟩
      · refine ((hrB.other_o ?_ _).other_o ?_ _).other_o ?_ _
        all_goals (intro g hg; have := hgB g (own_map_o hg); (try simp at this); (try simp); omega)
      · repeat' (first | exact Below.refl _ _ | refine Below.drew ?_ | refine below_drewN ?_ _ | refine Below.alloc ?_ (by first | omega | (simp <;> omega)) _ | refine Below.setCell ?_ (by first | omega | (simp <;> omega)) _ | refine Below.trans ?_ (Below.mono (by assumption) (by first | omega | (simp <;> omega))))
    · refine ⟨rfl, pB, cB, _, rfl, rfl, by omega, by simp; omega, by simp [go_sem, *], by simp [go_sem, *], by simp [go_sem, *], ?_, ?_⟩
      · refine ((hrB.other_o ?_ _).other_o ?_ _).other_o ?_ _
        all_goals (intro g hg; have := hgB g (own_map_o hg); (try simp at this); (try simp); omega)
      · repeat' (first | exact Below.refl _ _ | refine Below.drew ?_ | refine below_drewN ?_ _ | refine Below.alloc ?_ (by first | omega | (simp <;> omega)) _ | refine Below.setCell ?_ (by first | omega | (simp <;> omega)) _ | refine Below.trans ?_ (Below.mono (by assumption) (by first | omega | (simp <;> omega))))
  case rest =>
    obtain ⟨rfl, pB, cB, BX, rfl, rfl, hX1, hX2, y0, y1, y2, hrB, hbc⟩ := hcut
    have hbR := X1.out
    have hsW := HSW.out
    have c0 := (hbc.cell (p := ⟨bR, 0, none⟩) (by simp; omega)).trans t0
    have c1 := (hbc.cell (p := ⟨bR, 1, none⟩) (by simp; omega)).trans t1
    have c2 := (hbc.cell (p := ⟨bR, 2, none⟩) (by simp; omega)).trans t2
    have d0 := (hbc.cell (p := ⟨bL, 0, none⟩) (by simp; omega)).trans HL1.out.1
    have d1 := (hbc.cell (p := ⟨bL, 1, none⟩) (by simp; omega)).trans HL1.out.2.1
    have d2 := (hbc.cell (p := ⟨bL, 2, none⟩) (by simp; omega)).trans HL1.out.2.2
    have hVc := hV.later hbc
    have hDc := hD.later hbc
    have hLc := hL.later hbc
    have B4 : Below w.heap.size w wc := B3.trans (hbc.mono B3.size)
    have hm1 : bR < wc.heap.size := by omega
    have hm2 : bL < wc.heap.size := by omega
    clear t0 t1 t2 hV hD hL B3 HA hn3 hn3' X1 HSW HL1 hbc hX1 hbR hsW
    go_wp2_with (go_at_call 32; refine (kn_same _ _ DS _ _ _ _ hrB hDc rfl (by omega)).mono ?_; rintro e w6 ⟨rfl, hb6⟩; have hs6 := hb6.size; have f0 : w6.cell? ⟨bR, 0, none⟩ = some (.int .i64 a) := (hb6.cell (p := ⟨bR, 0, none⟩) (by simp <;> omega)).trans (by simp [go_sem, *]); have f1 : w6.cell? ⟨bR, 1, none⟩ = some (.int .i64 b) := (hb6.cell (p := ⟨bR, 1, none⟩) (by simp <;> omega)).trans (by simp [go_sem, *]); have f2 : w6.cell? ⟨bR, 2, none⟩ = some (.int .i64 c) := (hb6.cell (p := ⟨bR, 2, none⟩) (by simp <;> omega)).trans (by simp [go_sem, *]); have g0 : w6.cell? ⟨bL, 0, none⟩ = some (.int .i64 e1) := (hb6.cell (p := ⟨bL, 0, none⟩) (by simp <;> omega)).trans (by simp [go_sem, *]); have g1 : w6.cell? ⟨bL, 1, none⟩ = some (.int .i64 e2) := (hb6.cell (p := ⟨bL, 1, none⟩) (by simp <;> omega)).trans (by simp [go_sem, *]); have g2 : w6.cell? ⟨bL, 2, none⟩ = some (.int .i64 e3) := (hb6.cell (p := ⟨bL, 2, none⟩) (by simp <;> omega)).trans (by simp [go_sem, *]); have h0 : w6.cell? ⟨BX, 0, none⟩ = some (.int .i64 e1) := (hb6.cell (p := ⟨BX, 0, none⟩) (by simp <;> omega)).trans (by simp [go_sem, *]); have h1 : w6.cell? ⟨BX, 1, none⟩ = some (.int .i64 e2) := (hb6.cell (p := ⟨BX, 1, none⟩) (by simp <;> omega)).trans (by simp [go_sem, *]); have h2 : w6.cell? ⟨BX, 2, none⟩ = some (.int .i64 e3) := (hb6.cell (p := ⟨BX, 2, none⟩) (by simp <;> omega)).trans (by simp [go_sem, *]); have hl6 : bR < w6.heap.size := (by omega); have hl6' : ¬ bR = w6.heap.size := (by omega); have hV6 := hVc.later hb6; have hD6 := hDc.later hb6; have hL6 := hLc.later hb6; have B6 : Below w.heap.size w w6 := B4.trans (hb6.mono B4.size); clear c0 c1 c2 hVc hDc hLc hrB)
    obtain ⟨bO, hbO⟩ : ∃ x, w6.heap.size = x := ⟨_, rfl⟩
    obtain ⟨bF, hbF⟩ : ∃ x, bO + 1 = x := ⟨_, rfl⟩
    obtain ⟨W0, hW0⟩ : ∃ W0, (w6.alloc (.cells #[.int .i64 A, .int .i64 B, .int .i64 C] 22)).alloc (.cells #[.int .i64 a, .int .i64 b, .int .i64 c] 23) = W0 := ⟨_, rfl⟩
    have o0 : W0.cell? ⟨w6.heap.size, 0, none⟩ = some (.int .i64 A) := by rw [← hW0]; simp [go_sem]
    have o1 : W0.cell? ⟨w6.heap.size, 1, none⟩ = some (.int .i64 B) := by rw [← hW0]; simp [go_sem]
    have o2 : W0.cell? ⟨w6.heap.size, 2, none⟩ = some (.int .i64 C) := by rw [← hW0]; simp [go_sem]
    have i0 : W0.cell? ⟨w6.heap.size + 1, 0, none⟩ = some (.int .i64 a) := by rw [← hW0]; simp [go_sem]
    have i1 : W0.cell? ⟨w6.heap.size + 1, 1, none⟩ = some (.int .i64 b) := by rw [← hW0]; simp [go_sem]
    have i2 : W0.cell? ⟨w6.heap.size + 1, 2, none⟩ = some (.int .i64 c) := by rw [← hW0]; simp [go_sem]
    have j0 : W0.frozen? ⟨w6.heap.size + 1, 0, none⟩ = false := by rw [← hW0]; simp [go_sem]
    have j1 : W0.frozen? ⟨w6.heap.size + 1, 1, none⟩ = false := by rw [← hW0]; simp [go_sem]
    have j2 : W0.frozen? ⟨w6.heap.size + 1, 2, none⟩ = false := by rw [← hW0]; simp [go_sem]
    have J0 : ∀ j, W0.frozen? ⟨w6.heap.size + 1, j, none⟩ = false := fun j => by rw [← hW0]; simp [go_sem]
    have hsz0 : W0.heap.size = w6.heap.size + 2 := by rw [← hW0]; simp
    have B60 : Below w6.heap.size w6 W0 := by rw [← hW0]; exact ((Below.refl _ _).alloc (Nat.le_refl _) _).alloc (by simp) _
    rw [hW0]
    rw [hbO] at o0 o1 o2 i0 i1 i2 j0 j1 j2 J0 ⊢
    rw [hbF] at i0 i1 i2 j0 j1 j2 J0 ⊢
    have HA : ∀ n, (n = bO ∨ n = bF) → n < W0.heap.size := fun n h => by omega
    have hn1 : ¬ bO = bF := by omega
    have hn2 : ¬ bF = bO := by omega
    have HBO := Lib.hid hbO
    have HBF := Lib.hid hbF
    have HSZ := Lib.hid hsz0
    have hsB := B60.size
    have hq1 : w6.heap.size ≤ bO := by omega
    have hq2 : w6.heap.size ≤ bF := by omega
    clear hW0 hbO hbF hsz0 hb6 hs6 f0 f1 f2 g0 g1 g2 h0 h1 h2 hl6 hl6' hm1 hm2 hX2 d0 d1 d2 y0 y1 y2 B4
    have qA := fun w => mod_k A 1048576 (by omega) (by omega) w
    have qB := fun w => mod_k B 1048576 (by omega) (by omega) w
    have qC := fun w => mod_k C 1048576 (by omega) (by omega) w
    have A0 := Int.emod_nonneg A (b := 1048576) (by omega)
    have A1 := Int.emod_lt_of_pos A (b := 1048576) (by omega)
    have B0 := Int.emod_nonneg B (b := 1048576) (by omega)
    have B1 := Int.emod_lt_of_pos B (b := 1048576) (by omega)
    have C0 := Int.emod_nonneg C (b := 1048576) (by omega)
    have C1 := Int.emod_lt_of_pos C (b := 1048576) (by omega)
    have h1 := H1.out
    have h2 := H2.out
    have h3 := H3.out
    obtain ⟨rA, hA⟩ : ∃ x, A % 1048576 = x := ⟨_, rfl⟩
    obtain ⟨rB, hB⟩ : ∃ x, B % 1048576 = x := ⟨_, rfl⟩
    obtain ⟨rC, hC⟩ : ∃ x, C % 1048576 = x := ⟨_, rfl⟩
    rw [hA] at qA A0 A1 h1
    rw [hB] at qB B0 B1 h2
    rw [hC] at qC C0 C1 h3
    clear hA hB hC H1 H2 H3 qV qN qR qG ha
    have hF0 : Fil W0 bF a b c fa fb fc 0 := by
      have : Hist W0 bF (a, b, c) := ⟨i0, i1, i2, fun j => J0 j⟩
      simpa [Fil] using this
    have hbO := HBO.out
    have hbF := HBF.out
    have hsz0 := HSZ.out
    clear i0 i1 i2 j0 j1 j2 J0 HA
    go_loopw [22] (fun v wr => ∃ i : Nat, v = .int .i64 (i : Int) ∧ i ≤ 3 ∧ wr.cell? ⟨bO, 0, none⟩ = some (.int .i64 A) ∧ wr.cell? ⟨bO, 1, none⟩ = some (.int .i64 B) ∧ wr.cell? ⟨bO, 2, none⟩ = some (.int .i64 C) ∧ Fil wr bF a b c fa fb fc i ∧ Below w6.heap.size w6 wr) (fun v _ => 3 - (intOf v).toNat)
    case atStart => exact ⟨0, rfl, by omega, o0, o1, o2, hF0, B60⟩
    case round =>
      clear o0 o1 o2 hF0 B60 hsz0
      obtain ⟨i, rfl, hi, o0, o1, o2, hF, hbw⟩ := hrel
      have hlO := cell_lt o0
      dsimp only at hlO
      rcases (show i = 0 ∨ i = 1 ∨ i = 2 ∨ i = 3 by omega) with rfl | rfl | rfl | rfl
      · have ee : Hist wr bF (a, b, c) := by simpa [Fil] using hF
        have HE := Lib.hid ee
        obtain ⟨k0, k1, k2, k3⟩ := ee
        dsimp only at k0 k1 k2
        have hbl := cell_lt k0
        dsimp only at hbl
        obtain ⟨x0, hx0⟩ : ∃ x, a = x := ⟨_, rfl⟩
        have hzz := h1
        rw [hx0] at k0 hzz
        have HX0 := Lib.hid hx0
        clear hx0 h1 h2 h3
        rcases hzz with ⟨hz, hf⟩ | ⟨hz, hf⟩
        · have hz1 : (x0 == 0) = true := by simpa using hz
          have HF := Lib.hid hf
          clear hf hz
          go_wp2_with (go_at_call 27; refine (qA _).mono ?_; rintro e w7 ⟨rfl, hb7⟩; have hs7 := hb7.size; have hh7 := HE.out.later hb7; obtain ⟨z0, z1, z2, z3⟩ := hh7; (dsimp only at z0 z1 z2); have z4 := z3 0)
          go_roundw
          case rel =>
            have hh8 : Hist (w7.setCell ⟨bF, 0, none⟩ (.int .i64 (1 + rA))) bF (fa, b, c) := by
              rw [HF.out]
              exact ⟨by simp [go_sem, z0, z1, z2], by simp [go_sem, z0, z1, z2], by simp [go_sem, z0, z1, z2], fun j => by simp [go_sem, z3 j]⟩
            refine ⟨1, by go_num, by omega, ?_, ?_, ?_, ?_, (hbw.trans (hb7.mono hbw.size)).setCell (by simp; omega) _⟩
            · have := (hb7.cell (p := ⟨bO, 0, none⟩) (by simp; omega)).trans o0
              simpa [go_sem, hn1, hn2] using this
            · have := (hb7.cell (p := ⟨bO, 1, none⟩) (by simp; omega)).trans o1
              simpa [go_sem, hn1, hn2] using this
            · have := (hb7.cell (p := ⟨bO, 2, none⟩) (by simp; omega)).trans o2
              simpa [go_sem, hn1, hn2] using this
            · simpa [Fil] using hh8
          case measure => go_light; simp [intOf] <;> omega
        · have hz1 : (x0 == 0) = false := by simpa using hz
          have HF := Lib.hid hf
          clear hf hz
          go_wp2
          go_roundw
          case rel =>
            refine ⟨1, by go_num, by omega, o0, o1, o2, ?_, hbw⟩
            have hh8 : Hist wr bF (fa, b, c) := by
              rw [HF.out, ← HX0.out]
              exact HE.out
            simpa [Fil] using hh8
          case measure => go_light; simp [intOf] <;> omega
      · have ee : Hist wr bF (fa, b, c) := by simpa [Fil] using hF
        have HE := Lib.hid ee
        obtain ⟨k0, k1, k2, k3⟩ := ee
        dsimp only at k0 k1 k2
        have hbl := cell_lt k0
        dsimp only at hbl
        obtain ⟨x0, hx0⟩ : ∃ x, b = x := ⟨_, rfl⟩
        have hzz := h2
        rw [hx0] at k1 hzz
        have HX0 := Lib.hid hx0
        clear hx0 h1 h2 h3
        rcases hzz with ⟨hz, hf⟩ | ⟨hz, hf⟩
        · have hz1 : (x0 == 0) = true := by simpa using hz
          have HF := Lib.hid hf
          clear hf hz
          go_wp2_with (go_at_call 27; refine (qB _).mono ?_; rintro e w7 ⟨rfl, hb7⟩; have hs7 := hb7.size; have hh7 := HE.out.later hb7; obtain ⟨z0, z1, z2, z3⟩ := hh7; (dsimp only at z0 z1 z2); have z4 := z3 1)
          go_roundw
          case rel =>
            have hh8 : Hist (w7.setCell ⟨bF, 1, none⟩ (.int .i64 (1 + rB))) bF (fa, fb, c) := by
              rw [HF.out]
              exact ⟨by simp [go_sem, z0, z1, z2], by simp [go_sem, z0, z1, z2], by simp [go_sem, z0, z1, z2], fun j => by simp [go_sem, z3 j]⟩
            refine ⟨2, by go_num, by omega, ?_, ?_, ?_, ?_, (hbw.trans (hb7.mono hbw.size)).setCell (by simp; omega) _⟩
            · have := (hb7.cell (p := ⟨bO, 0, none⟩) (by simp; omega)).trans o0
              simpa [go_sem, hn1, hn2] using this
            · have := (hb7.cell (p := ⟨bO, 1, none⟩) (by simp; omega)).trans o1
              simpa [go_sem, hn1, hn2] using this
            · have := (hb7.cell (p := ⟨bO, 2, none⟩) (by simp; omega)).trans o2
              simpa [go_sem, hn1, hn2] using this
            · simpa [Fil] using hh8
          case measure => go_light; simp [intOf] <;> omega
        · have hz1 : (x0 == 0) = false := by simpa using hz
          have HF := Lib.hid hf
          clear hf hz
          go_wp2
          go_roundw
          case rel =>
            refine ⟨2, by go_num, by omega, o0, o1, o2, ?_, hbw⟩
            have hh8 : Hist wr bF (fa, fb, c) := by
              rw [HF.out, ← HX0.out]
              exact HE.out
            simpa [Fil] using hh8
          case measure => go_light; simp [intOf] <;> omega
      · have ee : Hist wr bF (fa, fb, c) := by simpa [Fil] using hF
        have HE := Lib.hid ee
        obtain ⟨k0, k1, k2, k3⟩ := ee
        dsimp only at k0 k1 k2
        have hbl := cell_lt k0
        dsimp only at hbl
        obtain ⟨x0, hx0⟩ : ∃ x, c = x := ⟨_, rfl⟩
        have hzz := h3
        rw [hx0] at k2 hzz
        have HX0 := Lib.hid hx0
        clear hx0 h1 h2 h3
        rcases hzz with ⟨hz, hf⟩ | ⟨hz, hf⟩
        · have hz1 : (x0 == 0) = true := by simpa using hz
          have HF := Lib.hid hf
          clear hf hz
          go_wp2_with (go_at_call 27; refine (qC _).mono ?_; rintro e w7 ⟨rfl, hb7⟩; have hs7 := hb7.size; have hh7 := HE.out.later hb7; obtain ⟨z0, z1, z2, z3⟩ := hh7; (dsimp only at z0 z1 z2); have z4 := z3 2)
          go_roundw
          case rel =>
            have hh8 : Hist (w7.setCell ⟨bF, 2, none⟩ (.int .i64 (1 + rC))) bF (fa, fb, fc) := by
              rw [HF.out]
              exact ⟨by simp [go_sem, z0, z1, z2], by simp [go_sem, z0, z1, z2], by simp [go_sem, z0, z1, z2], fun j => by simp [go_sem, z3 j]⟩
            refine ⟨3, by go_num, by omega, ?_, ?_, ?_, ?_, (hbw.trans (hb7.mono hbw.size)).setCell (by simp; omega) _⟩
            · have := (hb7.cell (p := ⟨bO, 0, none⟩) (by simp; omega)).trans o0
              simpa [go_sem, hn1, hn2] using this
            · have := (hb7.cell (p := ⟨bO, 1, none⟩) (by simp; omega)).trans o1
              simpa [go_sem, hn1, hn2] using this
            · have := (hb7.cell (p := ⟨bO, 2, none⟩) (by simp; omega)).trans o2
              simpa [go_sem, hn1, hn2] using this
            · simpa [Fil] using hh8
          case measure => go_light; simp [intOf] <;> omega
        · have hz1 : (x0 == 0) = false := by simpa using hz
          have HF := Lib.hid hf
          clear hf hz
          go_wp2
          go_roundw
          case rel =>
            refine ⟨3, by go_num, by omega, o0, o1, o2, ?_, hbw⟩
            have hh8 : Hist wr bF (fa, fb, fc) := by
              rw [HF.out, ← HX0.out]
              exact HE.out
            simpa [Fil] using hh8
          case measure => go_light; simp [intOf] <;> omega
      · have e3 : Hist wr bF (fa, fb, fc) := by simpa [Fil] using hF
        obtain ⟨k0, k1, k2, k3⟩ := e3
        dsimp only at k0 k1 k2
        have hbl := cell_lt k0
        dsimp only at hbl
        have hVr := hV6.later hbw
        have hDr := hD6.later hbw
        have hLr := hL6.later hbw
        have Br := B6.trans (hbw.mono B6.size)
        have hn5 := Br.size
        clear hF o0 o1 o2 hbw hV6 hD6 hL6 B6 hlO qA qB qC h1 h2 h3 A0 A1 B0 B1 C0 C1 hsB hq1 hq2
        go_wp2
        go_region_with (first | (go_at_call 39; refine (qS _ _ _ _ _ (hVr.later (by repeat' (first | exact Below.refl _ _ | refine Below.drew ?_ | refine below_drewN ?_ _ | refine Below.alloc ?_ (by first | omega | (simp <;> omega)) _ | refine Below.setCell ?_ (by first | omega | (simp <;> omega)) _ | refine Below.trans ?_ (Below.mono (by assumption) (by first | omega | (simp <;> omega)))))) (hLr.later (by repeat' (first | exact Below.refl _ _ | refine Below.drew ?_ | refine below_drewN ?_ _ | refine Below.alloc ?_ (by first | omega | (simp <;> omega)) _ | refine Below.setCell ?_ (by first | omega | (simp <;> omega)) _ | refine Below.trans ?_ (Below.mono (by assumption) (by first | omega | (simp <;> omega))))))).mono ?_; rintro e w8 ⟨pQ, cQ, rfl, hrQ, _, hb8⟩; have hs8 := hb8.size; (try simp at hs8); have m0 : w8.cell? ⟨bF, 0, none⟩ = some (.int .i64 fa) := (hb8.cell (p := ⟨bF, 0, none⟩) (by simp <;> omega)).trans (by simp [go_sem, *]); have m1 : w8.cell? ⟨bF, 1, none⟩ = some (.int .i64 fb) := (hb8.cell (p := ⟨bF, 1, none⟩) (by simp <;> omega)).trans (by simp [go_sem, *]); have m2 : w8.cell? ⟨bF, 2, none⟩ = some (.int .i64 fc) := (hb8.cell (p := ⟨bF, 2, none⟩) (by simp <;> omega)).trans (by simp [go_sem, *])) | (go_at_call 34; refine (qN2 _ _ _ (hrQ.later (by repeat' (first | exact Below.refl _ _ | refine Below.drew ?_ | refine below_drewN ?_ _ | refine Below.alloc ?_ (by first | omega | (simp <;> omega)) _ | refine Below.setCell ?_ (by first | omega | (simp <;> omega)) _ | refine Below.trans ?_ (Below.mono (by assumption) (by first | omega | (simp <;> omega))))))).mono ?_; rintro e w9 ⟨pE, cE, rfl, _, hrE, hb9⟩; have hs9 := hb9.size; (try simp at hs9)))
        all_goals (go_wp2_with (first | (go_at_call 32; refine (kn_same _ _ DS _ _ _ _ (hrE.later (by repeat' (first | exact Below.refl _ _ | refine Below.drew ?_ | refine below_drewN ?_ _ | refine Below.alloc ?_ (by first | omega | (simp <;> omega)) _ | refine Below.setCell ?_ (by first | omega | (simp <;> omega)) _ | refine Below.trans ?_ (Below.mono (by assumption) (by first | omega | (simp <;> omega)))))) (hDr.later (by repeat' (first | exact Below.refl _ _ | refine Below.drew ?_ | refine below_drewN ?_ _ | refine Below.alloc ?_ (by first | omega | (simp <;> omega)) _ | refine Below.setCell ?_ (by first | omega | (simp <;> omega)) _ | refine Below.trans ?_ (Below.mono (by assumption) (by first | omega | (simp <;> omega)))))) rfl (by omega)).mono ?_; rintro e w10 ⟨rfl, hb10⟩; have hs10 := hb10.size; (try simp at hs10)) | (go_at_call 25; refine (awake19 _).mono ?_; rintro e w11 ⟨rfl, hb11⟩; have hs11 := hb11.size; (try simp at hs11))))
        all_goals go_light
        all_goals (refine bodyPost_ret (v := .bool true) (by simp [results, Try.results7, go_sem, *]) rfl ⟨rfl, ?_⟩; repeat' (first | exact Below.refl _ _ | refine Below.drew ?_ | refine below_drewN ?_ _ | refine Below.alloc ?_ (by first | omega | (simp <;> omega)) _ | refine Below.setCell ?_ (by first | omega | (simp <;> omega)) _ | refine Below.trans ?_ (Below.mono (by assumption) (by first | omega | (simp <;> omega)))))

theorem gdk_bd (k : Int) (h0 : 0 ≤ k) (h1 : k < 1073741824) : 1 ≤ gdk k ∧ gdk k ≤ 2147483648 := by
  unfold gdk
  split <;> omega
theorem glk_nn (k : Int) (h0 : 0 ≤ k) : 0 ≤ glk k := by
  unfold glk
  have h9 := Int.emod_nonneg (k / 3) (b := 9) (by omega)
  rcases (show k % 2 = 0 ∨ k % 2 = 1 by omega) with h | h <;> rw [h] <;> omega
theorem gds_bd (xs : List Int) : ∀ d ∈ gds xs, 1 ≤ d ∧ d ≤ 2147483648 := by
  intro d hd
  obtain ⟨x, _, rfl⟩ := List.mem_map.1 hd
  exact gdk_bd _ (Int.emod_nonneg x (by omega)) (Int.emod_lt_of_pos x (by omega))
theorem gls_nn (xs : List Int) : ∀ l ∈ gls xs, 0 ≤ l := by
  intro d hd
  obtain ⟨x, _, rfl⟩ := List.mem_map.1 hd
  exact glk_nn _ (Int.emod_nonneg x (by omega))
theorem gds_len (xs : List Int) : (gds xs).length ≤ 20 := by unfold gds; rw [List.length_map, List.length_take]; omega
theorem gls_len (xs : List Int) : (gls xs).length = (gds xs).length := by unfold gds gls; rw [List.length_map, List.length_map]
/-- A place of a history, filled where it is not known. -/
def fil (a A : Int) : Int := if a = 0 then 1 + A % 1048576 else a
theorem fil_or (a A : Int) : (a = 0 ∧ fil a A = 1 + A % 1048576) ∨ (a ≠ 0 ∧ fil a A = a) := by
  unfold fil
  by_cases h : a = 0
  · left; rw [if_pos h]; exact ⟨h, rfl⟩
  · right; rw [if_neg h]; exact ⟨h, rfl⟩
theorem fil_bd {a A : Int} (h : 0 ≤ a) (h2 : a ≤ 2147483648) : 0 < fil a A ∧ fil a A ≤ 2147483648 := by
  have h8 := Int.emod_nonneg A (b := 1048576) (by omega)
  have h9 := Int.emod_lt_of_pos A (b := 1048576) (by omega)
  rcases fil_or a A with ⟨h3, h4⟩ | ⟨h3, h4⟩ <;> omega
theorem repsBack_w (n : Int) (pn : Option Addr) (ns : List Int) (cn : Nat) (A B C : Int) (w : World) (ha : Row .i64 w pn ns) (hl : ns.length ≤ 9223372036854775807) :
    Calls Try.prog 7 #[.int .i64 n, .slice pn ns.length cn, .int .i64 A, .int .i64 B, .int .i64 C] w fun e w' => e = .returned (.bool true) ∧ Below w.heap.size w w' := by
  have hR := fun w => reps_k n w
  have hc := kR_chk (n % 1073741824) (Int.emod_nonneg n (by omega))
  generalize kR (n % 1073741824) 0 = a at hR hc
  generalize kR (n % 1073741824) 1 = b at hR hc
  generalize kR (n % 1073741824) 2 = c at hR hc
  obtain ⟨c1, c2, c3, c4, c5, c6, _, _⟩ := chk_ok hc
  have f1 := fil_bd (A := A) c1 c2
  have f2 := fil_bd (A := B) c3 c4
  have f3 := fil_bd (A := C) c5 c6
  have o1 := fil_or a A
  have o2 := fil_or b B
  have o3 := fil_or c C
  have hx : chkL true [fil a A, fil b B, fil c C] = 0 := chk_of ⟨by omega, by omega, by omega, by omega, by omega, by omega, fun _ => by omega, fun _ => by omega⟩
  have hw : wide (a, b, c) (fil a A, fil b B, fil c C) := ⟨fun h => by rcases o1 with ⟨g, _⟩ | ⟨_, g⟩; exact absurd g h; exact g, fun h => by rcases o2 with ⟨g, _⟩ | ⟨_, g⟩; exact absurd g h; exact g, fun h => by rcases o3 with ⟨g, _⟩ | ⟨_, g⟩; exact absurd g h; exact g⟩
  have hd := gds_len ns
  have hg := gls_len ns
  obtain ⟨VS, e1, e2, e3, u1, u2, u3, h1, h2, h3, h4⟩ := values_back hc hx hw hg (by omega) (gds_bd ns) (gls_nn ns)
  refine back_1 a b c (fil a A) (fil b B) (fil c C) e1 e2 e3 u1 u2 u3 A B C n (gds ns) (gls ns) VS pn ns cn w ha hd hg h2 o1 o2 o3 hR (fun w h => given_p pn ns cn w h hl) ?_ ?_ ?_ ?_
  · intro w pd pl cd cl hd hl
    have := values_p a b c pd pl (gds ns) (gls ns) cd cl w hd hl (by omega)
    rwa [h1] at this
  · intro w pv pl cv cl hv hl
    exact seqs_p pv pl VS (gls ns) cv cl w hv hl (by omega) (by omega)
  · intro w pq cq hq
    have := run_p a b c pq (mkq VS (gls ns)) cq w hq (by rw [mkq_len]; omega)
    rwa [h3] at this
  · intro w pq cq hq
    have := run_p (fil a A) (fil b B) (fil c C) pq (mkq VS (gls ns)) cq w hq (by rw [mkq_len]; omega)
    rwa [h4] at this
end Go.Proofs.Ytenhglamnpmkaaa
