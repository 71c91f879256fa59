/-
  Where the next match of a parse begins, walked.
-/
import Derived.Test.YtammacofhdbgcaaRows
import Derived.Test.YtammacofhdbgcaaParseBetter
import Derived.Test.YtammacofhdbgcaaParsePlain2
import Derived.Test.YtammacofhdbgcaaGBase
import Derived.Deep.Light
import Derived.Shelf.Abstract
import Derived.Shelf.RegionOpen
import Derived.OwnWalkIn
import Derived.TacticsInMore
import Derived.LoopNIn
import Derived.LoopIn
import Derived.Outline
import Derived.Deep.LoopGhost
import Derived.IntWalk
namespace Go.Proofs.Ytammacofhdbgcaa
open Go.RowKit
set_option linter.unusedSimpArgs false
set_option linter.unusedVariables false
open Go.Shelf
attribute [local go_sem] eq32 Oper.semAt_some

/-- The next match. -/
def NextPost (R : Nat × (Int × Int × Int × Int) × Bool) (w : World) (en : Ending) (w' : World) : Prop :=
  en = .returned (.tuple #[.int .i64 (R.1 : Nat), .agg #[.int .i64 R.2.1.1, .int .i64 R.2.1.2.1, .int .i64 R.2.1.2.2.1, .int .i64 R.2.1.2.2.2], .bool R.2.2]) ∧ Below w.heap.size w w'
/-- The boxes of the search. -/
def NBox (A B C D E bk p : Nat) (li : Int) (m : Int × Int × Int × Int) (w : World) : Prop := Blk w A 95 [.pointer (some ⟨bk, 0, none⟩)] ∧ Blk w B 3 [.int .i64 (p : Int)] ∧ Blk w C 3 [.int .i64 li] ∧ Blk w D 32 [.int .i64 0, .int .i64 0, .int .i64 0, .int .i64 0] ∧ Blk w E 32 [.int .i64 m.1, .int .i64 m.2.1, .int .i64 m.2.2.1, .int .i64 m.2.2.2]
theorem NBox.below {A B C D E bk p L : Nat} {li : Int} {m : Int × Int × Int × Int} {w w' : World} (h : NBox A B C D E bk p li m w) (hb : Below L w w') (h1 : A < L) (h2 : B < L) (h3 : C < L) (h4 : D < L) (h5 : E < L) : NBox A B C D E bk p li m w' :=
  ⟨h.1.below hb h1, h.2.1.below hb h2, h.2.2.1.below hb h3, h.2.2.2.1.below hb h4, h.2.2.2.2.below hb h5⟩
theorem NBox.later {A B C D E bk p : Nat} {li : Int} {m : Int × Int × Int × Int} {w w' : World} (h : NBox A B C D E bk p li m w) (hb : Below w.heap.size w w') : NBox A B C D E bk p li m w' :=
  h.below hb h.1.lt h.2.1.lt h.2.2.1.lt h.2.2.2.1.lt h.2.2.2.2.lt
theorem Work.drewN {w : World} {bk : Nat} {a b c : Int} {s : ByteArray} {e : Nat} {l dp lz : Int} (h : Work w bk a b c s e l dp lz) (n : Nat) : Work (w.drewN n) bk a b c s e l dp lz := h.of_cells fun _ => rfl
set_option maxRecDepth 100000 in
set_option maxHeartbeats 16000000 in
theorem next_s (bk p0 lz : Nat) (a b c l dp li0 : Int) (s : ByteArray) (e : Nat) (w : World) (hs : s.size ≤ 1048576) (hp : p0 ≤ e) (he : e ≤ s.size) (hl0 : 0 ≤ li0) (hl1 : li0 ≤ 131072) (hz : lz ≤ 2) (hw : Work w bk a b c s e l dp lz) :
    Calls Try.prog 77 #[.pointer (some ⟨bk, 0, none⟩), .int .i64 (p0 : Int), .int .i64 li0] w (NextPost (pnext s e l dp a b c lz p0 li0) w) := by
  have hlk := hw.lt
  go_enter Try.func77, Try.ntmps77
  go_wp2
  go_step3
  go_wp2
  obtain ⟨W0, hW0⟩ : ∃ W0, (((((w.alloc (.cells #[.pointer (some ⟨bk, 0, none⟩)] 95)).alloc (.cells #[.int .i64 (p0 : Int)] 3)).alloc (.cells #[.int .i64 li0] 3)).alloc (.cells #[.int .i64 0, .int .i64 0, .int .i64 0, .int .i64 0] 32)).alloc (.cells #[.int .i64 0, .int .i64 0, .int .i64 0, .int .i64 0] 32)) = W0 := ⟨_, rfl⟩
  have B0 : Below w.heap.size w W0 := by
    rw [← hW0]
    repeat' (first | exact Below.refl _ _ | refine Below.drew ?_ | refine below_drewN ?_ _ | refine Below.alloc ?_ (by first | omega | (simp <;> omega)) _ | refine Below.setCell ?_ (by first | omega | (simp <;> omega)) _ | refine Below.trans ?_ (Below.mono (by assumption) (by first | omega | (simp <;> omega))))
  have S0 : W0.heap.size = w.heap.size + 5 := by rw [← hW0]; simp
  have N0 : NBox w.heap.size (w.heap.size + 1) (w.heap.size + 1 + 1) (w.heap.size + 1 + 1 + 1) (w.heap.size + 1 + 1 + 1 + 1) bk p0 li0 (0, 0, 0, 0) W0 := by
    rw [← hW0]
    refine ⟨(Blk.alloc (Blk.alloc (Blk.alloc (Blk.alloc (by simpa using Blk.new w 95 #[.pointer (some ⟨bk, 0, none⟩)]) _) _) _) _), (Blk.alloc (Blk.alloc (Blk.alloc (by simpa using Blk.new (w.alloc (.cells #[.pointer (some ⟨bk, 0, none⟩)] 95)) 3 #[.int .i64 (p0 : Int)]) _) _) _), (Blk.alloc (Blk.alloc (by simpa using Blk.new ((w.alloc (.cells #[.pointer (some ⟨bk, 0, none⟩)] 95)).alloc (.cells #[.int .i64 (p0 : Int)] 3)) 3 #[.int .i64 li0]) _) _), (Blk.alloc (by simpa using Blk.new (((w.alloc (.cells #[.pointer (some ⟨bk, 0, none⟩)] 95)).alloc (.cells #[.int .i64 (p0 : Int)] 3)).alloc (.cells #[.int .i64 li0] 3)) 32 #[.int .i64 0, .int .i64 0, .int .i64 0, .int .i64 0]) _), (by simpa using Blk.new ((((w.alloc (.cells #[.pointer (some ⟨bk, 0, none⟩)] 95)).alloc (.cells #[.int .i64 (p0 : Int)] 3)).alloc (.cells #[.int .i64 li0] 3)).alloc (.cells #[.int .i64 0, .int .i64 0, .int .i64 0, .int .i64 0] 32)) 32 #[.int .i64 0, .int .i64 0, .int .i64 0, .int .i64 0])⟩
  rw [hW0]
  clear hW0
  obtain ⟨B, hB⟩ : ∃ n, w.heap.size + 1 = n := ⟨_, rfl⟩
  obtain ⟨C, hC⟩ : ∃ n, B + 1 = n := ⟨_, rfl⟩
  obtain ⟨D, hD⟩ : ∃ n, C + 1 = n := ⟨_, rfl⟩
  obtain ⟨E, hE⟩ : ∃ n, D + 1 = n := ⟨_, rfl⟩
  rw [hB, hC, hD, hE] at N0
  (try simp only [hB, hC, hD, hE])
  go_step3
  go_wp2
  have n01 : ¬ w.heap.size = B := by omega
  have n02 : ¬ w.heap.size = C := by omega
  have n03 : ¬ w.heap.size = D := by omega
  have n04 : ¬ w.heap.size = E := by omega
  have n10 : ¬ B = w.heap.size := by omega
  have n12 : ¬ B = C := by omega
  have n13 : ¬ B = D := by omega
  have n14 : ¬ B = E := by omega
  have n20 : ¬ C = w.heap.size := by omega
  have n21 : ¬ C = B := by omega
  have n23 : ¬ C = D := by omega
  have n24 : ¬ C = E := by omega
  have n30 : ¬ D = w.heap.size := by omega
  have n31 : ¬ D = B := by omega
  have n32 : ¬ D = C := by omega
  have n34 : ¬ D = E := by omega
  have n40 : ¬ E = w.heap.size := by omega
  have n41 : ¬ E = B := by omega
  have n42 : ¬ E = C := by omega
  have n43 : ¬ E = D := by omega
  have hsz : E < W0.heap.size := by omega
  have lB : w.heap.size < B := by omega
  have lC : w.heap.size < C := by omega
  have lD : w.heap.size < D := by omega
  have lE : w.heap.size < E := by omega
  have HSZ : Hid (w.heap.size < W0.heap.size ∧ B < W0.heap.size ∧ C < W0.heap.size ∧ D < W0.heap.size ∧ E < W0.heap.size) := by exact Lib.hid ⟨by omega, by omega, by omega, by omega, by omega⟩
  clear hB hC hD hE S0
  go_loopg [] (e - p0) (fun k wr => ∃ (p : Nat) (li : Int) (m : Int × Int × Int × Int), p0 ≤ p ∧ p ≤ e ∧ k = e - p ∧ li = li0 + (p - p0 : Nat) ∧ Hid (pnext s e l dp a b c lz p0 li0 = pnext s e l dp a b c lz p li) ∧ Below w.heap.size w wr ∧ NBox w.heap.size B C D E bk p li m wr)
  case atStart =>
    exact ⟨p0, li0, (0, 0, 0, 0), Nat.le_refl _, hp, rfl, by simp, Lib.hid rfl, B0, N0⟩
  case round =>
    clear N0 B0 HSZ
    obtain ⟨p, li, ⟨m1, m2, m3, m4⟩, hp1, hp2, hgk, hli, HP, hb, hN⟩ := hrel
    have HLI := Lib.hid hli
    have HGK := Lib.hid hgk
    have hlb : 0 ≤ li := by omega
    have hlb2 : li ≤ 1310720 := by omega
    clear hgk hli
    have hwr := hw.below hb hlk
    have hq := hN; obtain ⟨x0, x1, x2, x3, x4⟩ := hq; have c00 : wr.cell? ⟨w.heap.size, 0, none⟩ = some (.pointer (some ⟨bk, 0, none⟩)) := x0.cell 0; have g0 : ∀ i, wr.frozen? ⟨w.heap.size, i, none⟩ = false := (fun i => x0.frozen i); have l0 : w.heap.size < wr.heap.size := x0.lt; have r0 : ¬ w.heap.size = wr.heap.size := (by omega); have s0 : ¬ wr.heap.size = w.heap.size := (by omega); have c10 : wr.cell? ⟨B, 0, none⟩ = some (.int .i64 (p : Int)) := x1.cell 0; have g1 : ∀ i, wr.frozen? ⟨B, i, none⟩ = false := (fun i => x1.frozen i); have l1 : B < wr.heap.size := x1.lt; have r1 : ¬ B = wr.heap.size := (by omega); have s1 : ¬ wr.heap.size = B := (by omega); have c20 : wr.cell? ⟨C, 0, none⟩ = some (.int .i64 li) := x2.cell 0; have g2 : ∀ i, wr.frozen? ⟨C, i, none⟩ = false := (fun i => x2.frozen i); have l2 : C < wr.heap.size := x2.lt; have r2 : ¬ C = wr.heap.size := (by omega); have s2 : ¬ wr.heap.size = C := (by omega); have c30 : wr.cell? ⟨D, 0, none⟩ = some (.int .i64 0) := x3.cell 0; have c31 : wr.cell? ⟨D, 1, none⟩ = some (.int .i64 0) := x3.cell 1; have c32 : wr.cell? ⟨D, 2, none⟩ = some (.int .i64 0) := x3.cell 2; have c33 : wr.cell? ⟨D, 3, none⟩ = some (.int .i64 0) := x3.cell 3; have g3 : ∀ i, wr.frozen? ⟨D, i, none⟩ = false := (fun i => x3.frozen i); have l3 : D < wr.heap.size := x3.lt; have r3 : ¬ D = wr.heap.size := (by omega); have s3 : ¬ wr.heap.size = D := (by omega); have c40 : wr.cell? ⟨E, 0, none⟩ = some (.int .i64 m1) := x4.cell 0; have c41 : wr.cell? ⟨E, 1, none⟩ = some (.int .i64 m2) := x4.cell 1; have c42 : wr.cell? ⟨E, 2, none⟩ = some (.int .i64 m3) := x4.cell 2; have c43 : wr.cell? ⟨E, 3, none⟩ = some (.int .i64 m4) := x4.cell 3; have g4 : ∀ i, wr.frozen? ⟨E, i, none⟩ = false := (fun i => x4.frozen i); have l4 : E < wr.heap.size := x4.lt; have r4 : ¬ E = wr.heap.size := (by omega); have s4 : ¬ wr.heap.size = E := (by omega)
    have hk := hwr; obtain ⟨k0, k1, k2, k3, k4, k5, k6, k7⟩ := hk
    by_cases hpe : p < e
    · have hd1 : decide (p < e) = true := by simpa using hpe
      have hd2 : decide ((p : Int) < (e : Int)) = true := by simpa using hpe
      have qA := fun (w' : World) (h : Work w' bk a b c s e l dp lz) => at_s bk p a b c l dp lz li s e w' hs h
      have hpo := pat_ok s e l dp a b c p li
      have hpn := pnext_none s e l dp a b c lz p li hpe
      have hph := pnext_here s e l dp a b c lz p li hpe
      have hpl := pnext_later s e l dp a b c lz p li hpe
      obtain ⟨R, hR⟩ : ∃ R, pat s e l dp a b c p li = R := ⟨_, rfl⟩
      rw [hR] at qA hpo hpn hph hpl
      obtain ⟨⟨x, y, z, u⟩, fb⟩ := R
      dsimp only at qA hpo hpn hph hpl
      have HQ := Lib.hid (show _ ∧ _ ∧ _ ∧ _ from ⟨hpo, hpn, hph, hpl⟩)
      clear hR hpo hpn hph hpl
      cases fb
      · go_wp2
        go_quiet (fail)
        go_wp2_with (go_at_call 102; refine (qA _ (by first | exact hwr | exact hwr.drewN _)).mono ?_; rintro en w1 ⟨rfl, hb1⟩; have hz1 := hb1.size; (simp at hz1); have hb2 : Below wr.heap.size wr w1 := (by repeat' (first | exact Below.refl _ _ | refine Below.drew ?_ | refine below_drewN ?_ _ | refine Below.alloc ?_ (by first | omega | (simp <;> omega)) _ | refine Below.setCell ?_ (by first | omega | (simp <;> omega)) _ | refine Below.trans ?_ (Below.mono (by assumption) (by first | omega | (simp <;> omega))))); have hN1 := hN.later hb2; have hqa := hN1; obtain ⟨x0a, x1a, x2a, x3a, x4a⟩ := hqa; have c00a : w1.cell? ⟨w.heap.size, 0, none⟩ = some (.pointer (some ⟨bk, 0, none⟩)) := x0a.cell 0; have g0a : ∀ i, w1.frozen? ⟨w.heap.size, i, none⟩ = false := (fun i => x0a.frozen i); have l0a : w.heap.size < w1.heap.size := x0a.lt; have r0a : ¬ w.heap.size = w1.heap.size := (by omega); have s0a : ¬ w1.heap.size = w.heap.size := (by omega); have c10a : w1.cell? ⟨B, 0, none⟩ = some (.int .i64 (p : Int)) := x1a.cell 0; have g1a : ∀ i, w1.frozen? ⟨B, i, none⟩ = false := (fun i => x1a.frozen i); have l1a : B < w1.heap.size := x1a.lt; have r1a : ¬ B = w1.heap.size := (by omega); have s1a : ¬ w1.heap.size = B := (by omega); have c20a : w1.cell? ⟨C, 0, none⟩ = some (.int .i64 li) := x2a.cell 0; have g2a : ∀ i, w1.frozen? ⟨C, i, none⟩ = false := (fun i => x2a.frozen i); have l2a : C < w1.heap.size := x2a.lt; have r2a : ¬ C = w1.heap.size := (by omega); have s2a : ¬ w1.heap.size = C := (by omega); have c30a : w1.cell? ⟨D, 0, none⟩ = some (.int .i64 0) := x3a.cell 0; have c31a : w1.cell? ⟨D, 1, none⟩ = some (.int .i64 0) := x3a.cell 1; have c32a : w1.cell? ⟨D, 2, none⟩ = some (.int .i64 0) := x3a.cell 2; have c33a : w1.cell? ⟨D, 3, none⟩ = some (.int .i64 0) := x3a.cell 3; have g3a : ∀ i, w1.frozen? ⟨D, i, none⟩ = false := (fun i => x3a.frozen i); have l3a : D < w1.heap.size := x3a.lt; have r3a : ¬ D = w1.heap.size := (by omega); have s3a : ¬ w1.heap.size = D := (by omega); have c40a : w1.cell? ⟨E, 0, none⟩ = some (.int .i64 m1) := x4a.cell 0; have c41a : w1.cell? ⟨E, 1, none⟩ = some (.int .i64 m2) := x4a.cell 1; have c42a : w1.cell? ⟨E, 2, none⟩ = some (.int .i64 m3) := x4a.cell 2; have c43a : w1.cell? ⟨E, 3, none⟩ = some (.int .i64 m4) := x4a.cell 3; have g4a : ∀ i, w1.frozen? ⟨E, i, none⟩ = false := (fun i => x4a.frozen i); have l4a : E < w1.heap.size := x4a.lt; have r4a : ¬ E = w1.heap.size := (by omega); have s4a : ¬ w1.heap.size = E := (by omega); have hW1 := hwr.later hb2; have hka := hW1; obtain ⟨k0a, k1a, k2a, k3a, k4a, k5a, k6a, k7a⟩ := hka)
        obtain ⟨h1, h2, h3, h4⟩ := HQ.out
        have hNV : NBox w.heap.size B C D E bk (p + 1) (li + 1) (m1, m2, m3, m4) ((((w1.setCell ⟨B, 0, none⟩ (.int .i64 ((p : Int) + 1))).setCell ⟨C, 0, none⟩ (.int .i64 (li + 1))).alloc (.cells #[.int .i64 x, .int .i64 y, .int .i64 z, .int .i64 u] 32))) := ⟨(by simpa using ((Blk.other (Blk.other x0a (a := ⟨B, 0, none⟩) (by first | omega | (simp <;> omega)) (.int .i64 ((p : Int) + 1))) (a := ⟨C, 0, none⟩) (by first | omega | (simp <;> omega)) (.int .i64 (li + 1))).alloc (.cells #[.int .i64 x, .int .i64 y, .int .i64 z, .int .i64 u] 32))), (by simpa using ((Blk.other (x1a.set 0 (.int .i64 ((p : Int) + 1))) (a := ⟨C, 0, none⟩) (by first | omega | (simp <;> omega)) (.int .i64 (li + 1))).alloc (.cells #[.int .i64 x, .int .i64 y, .int .i64 z, .int .i64 u] 32))), (by simpa using (((Blk.other x2a (a := ⟨B, 0, none⟩) (by first | omega | (simp <;> omega)) (.int .i64 ((p : Int) + 1))).set 0 (.int .i64 (li + 1))).alloc (.cells #[.int .i64 x, .int .i64 y, .int .i64 z, .int .i64 u] 32))), (by simpa using ((Blk.other (Blk.other x3a (a := ⟨B, 0, none⟩) (by first | omega | (simp <;> omega)) (.int .i64 ((p : Int) + 1))) (a := ⟨C, 0, none⟩) (by first | omega | (simp <;> omega)) (.int .i64 (li + 1))).alloc (.cells #[.int .i64 x, .int .i64 y, .int .i64 z, .int .i64 u] 32))), (by simpa using ((Blk.other (Blk.other x4a (a := ⟨B, 0, none⟩) (by first | omega | (simp <;> omega)) (.int .i64 ((p : Int) + 1))) (a := ⟨C, 0, none⟩) (by first | omega | (simp <;> omega)) (.int .i64 (li + 1))).alloc (.cells #[.int .i64 x, .int .i64 y, .int .i64 z, .int .i64 u] 32)))⟩
        have hBV := (Below.alloc (Below.setCell (p := ⟨C, 0, none⟩) (Below.setCell (p := ⟨B, 0, none⟩) (hb.trans (hb2.mono hb.size)) (by first | omega | (simp <;> omega)) (.int .i64 ((p : Int) + 1))) (by first | omega | (simp <;> omega)) (.int .i64 (li + 1))) (by first | omega | (simp <;> omega)) (.cells #[.int .i64 x, .int .i64 y, .int .i64 z, .int .i64 u] 32))
        go_roundg (e - (p + 1))
        case measure => have := HGK.out; omega
        case rel => exact ⟨p + 1, li + 1, (m1, m2, m3, m4), by omega, by omega, rfl, by rw [HLI.out]; omega, Lib.hid (HP.out.trans (h2 trivial)), hBV, hNV⟩
      · go_wp2
        go_quiet (fail)
        go_wp2_with (go_at_call 102; refine (qA _ (by first | exact hwr | exact hwr.drewN _)).mono ?_; rintro en w1 ⟨rfl, hb1⟩; have hz1 := hb1.size; (simp at hz1); have hb2 : Below wr.heap.size wr w1 := (by repeat' (first | exact Below.refl _ _ | refine Below.drew ?_ | refine below_drewN ?_ _ | refine Below.alloc ?_ (by first | omega | (simp <;> omega)) _ | refine Below.setCell ?_ (by first | omega | (simp <;> omega)) _ | refine Below.trans ?_ (Below.mono (by assumption) (by first | omega | (simp <;> omega))))); have hN1 := hN.later hb2; have hqa := hN1; obtain ⟨x0a, x1a, x2a, x3a, x4a⟩ := hqa; have c00a : w1.cell? ⟨w.heap.size, 0, none⟩ = some (.pointer (some ⟨bk, 0, none⟩)) := x0a.cell 0; have g0a : ∀ i, w1.frozen? ⟨w.heap.size, i, none⟩ = false := (fun i => x0a.frozen i); have l0a : w.heap.size < w1.heap.size := x0a.lt; have r0a : ¬ w.heap.size = w1.heap.size := (by omega); have s0a : ¬ w1.heap.size = w.heap.size := (by omega); have c10a : w1.cell? ⟨B, 0, none⟩ = some (.int .i64 (p : Int)) := x1a.cell 0; have g1a : ∀ i, w1.frozen? ⟨B, i, none⟩ = false := (fun i => x1a.frozen i); have l1a : B < w1.heap.size := x1a.lt; have r1a : ¬ B = w1.heap.size := (by omega); have s1a : ¬ w1.heap.size = B := (by omega); have c20a : w1.cell? ⟨C, 0, none⟩ = some (.int .i64 li) := x2a.cell 0; have g2a : ∀ i, w1.frozen? ⟨C, i, none⟩ = false := (fun i => x2a.frozen i); have l2a : C < w1.heap.size := x2a.lt; have r2a : ¬ C = w1.heap.size := (by omega); have s2a : ¬ w1.heap.size = C := (by omega); have c30a : w1.cell? ⟨D, 0, none⟩ = some (.int .i64 0) := x3a.cell 0; have c31a : w1.cell? ⟨D, 1, none⟩ = some (.int .i64 0) := x3a.cell 1; have c32a : w1.cell? ⟨D, 2, none⟩ = some (.int .i64 0) := x3a.cell 2; have c33a : w1.cell? ⟨D, 3, none⟩ = some (.int .i64 0) := x3a.cell 3; have g3a : ∀ i, w1.frozen? ⟨D, i, none⟩ = false := (fun i => x3a.frozen i); have l3a : D < w1.heap.size := x3a.lt; have r3a : ¬ D = w1.heap.size := (by omega); have s3a : ¬ w1.heap.size = D := (by omega); have c40a : w1.cell? ⟨E, 0, none⟩ = some (.int .i64 m1) := x4a.cell 0; have c41a : w1.cell? ⟨E, 1, none⟩ = some (.int .i64 m2) := x4a.cell 1; have c42a : w1.cell? ⟨E, 2, none⟩ = some (.int .i64 m3) := x4a.cell 2; have c43a : w1.cell? ⟨E, 3, none⟩ = some (.int .i64 m4) := x4a.cell 3; have g4a : ∀ i, w1.frozen? ⟨E, i, none⟩ = false := (fun i => x4a.frozen i); have l4a : E < w1.heap.size := x4a.lt; have r4a : ¬ E = w1.heap.size := (by omega); have s4a : ¬ w1.heap.size = E := (by omega); have hW1 := hwr.later hb2; have hka := hW1; obtain ⟨k0a, k1a, k2a, k3a, k4a, k5a, k6a, k7a⟩ := hka)
        obtain ⟨h1, h2, h3, h4⟩ := HQ.out
        obtain ⟨qq, vv, yy, zz, t1, t2, t3, t4, t5, t6, t7, t8, t9, t10, t11, t12, t13, t14, t15⟩ := h1 trivial
        have hub : -100 ≤ u ∧ u ≤ 4194304 := by
          obtain ⟨n, rfl⟩ : ∃ n : Nat, vv = (n : Int) := ⟨vv.toNat, by omega⟩
          have := hi_bd n (by omega)
          simp only [Prod.mk.injEq] at t15
          obtain ⟨rfl, rfl, rfl, rfl⟩ := t15
          unfold mgain
          rw [Int.toNat_natCast]
          omega
        have HH := Lib.hid (show _ ∧ _ from ⟨h3, h4⟩)
        clear h1 h2 h3 h4 t1 t2 t3 t4 t5 t6 t7 t8 t9 t10 t11 t12 t13 t14 t15
        have hNV : NBox w.heap.size B C D E bk p li (x, y, z, u) ((((((w1.setCell ⟨E, 0, none⟩ (.int .i64 x)).setCell ⟨E, 1, none⟩ (.int .i64 y)).setCell ⟨E, 2, none⟩ (.int .i64 z)).setCell ⟨E, 3, none⟩ (.int .i64 u)).alloc (.cells #[.int .i64 x, .int .i64 y, .int .i64 z, .int .i64 u] 32))) := ⟨(by simpa using ((Blk.other (Blk.other (Blk.other (Blk.other x0a (a := ⟨E, 0, none⟩) (by first | omega | (simp <;> omega)) (.int .i64 x)) (a := ⟨E, 1, none⟩) (by first | omega | (simp <;> omega)) (.int .i64 y)) (a := ⟨E, 2, none⟩) (by first | omega | (simp <;> omega)) (.int .i64 z)) (a := ⟨E, 3, none⟩) (by first | omega | (simp <;> omega)) (.int .i64 u)).alloc (.cells #[.int .i64 x, .int .i64 y, .int .i64 z, .int .i64 u] 32))), (by simpa using ((Blk.other (Blk.other (Blk.other (Blk.other x1a (a := ⟨E, 0, none⟩) (by first | omega | (simp <;> omega)) (.int .i64 x)) (a := ⟨E, 1, none⟩) (by first | omega | (simp <;> omega)) (.int .i64 y)) (a := ⟨E, 2, none⟩) (by first | omega | (simp <;> omega)) (.int .i64 z)) (a := ⟨E, 3, none⟩) (by first | omega | (simp <;> omega)) (.int .i64 u)).alloc (.cells #[.int .i64 x, .int .i64 y, .int .i64 z, .int .i64 u] 32))), (by simpa using ((Blk.other (Blk.other (Blk.other (Blk.other x2a (a := ⟨E, 0, none⟩) (by first | omega | (simp <;> omega)) (.int .i64 x)) (a := ⟨E, 1, none⟩) (by first | omega | (simp <;> omega)) (.int .i64 y)) (a := ⟨E, 2, none⟩) (by first | omega | (simp <;> omega)) (.int .i64 z)) (a := ⟨E, 3, none⟩) (by first | omega | (simp <;> omega)) (.int .i64 u)).alloc (.cells #[.int .i64 x, .int .i64 y, .int .i64 z, .int .i64 u] 32))), (by simpa using ((Blk.other (Blk.other (Blk.other (Blk.other x3a (a := ⟨E, 0, none⟩) (by first | omega | (simp <;> omega)) (.int .i64 x)) (a := ⟨E, 1, none⟩) (by first | omega | (simp <;> omega)) (.int .i64 y)) (a := ⟨E, 2, none⟩) (by first | omega | (simp <;> omega)) (.int .i64 z)) (a := ⟨E, 3, none⟩) (by first | omega | (simp <;> omega)) (.int .i64 u)).alloc (.cells #[.int .i64 x, .int .i64 y, .int .i64 z, .int .i64 u] 32))), (by simpa using (((((x4a.set 0 (.int .i64 x)).set 1 (.int .i64 y)).set 2 (.int .i64 z)).set 3 (.int .i64 u)).alloc (.cells #[.int .i64 x, .int .i64 y, .int .i64 z, .int .i64 u] 32)))⟩
        have hBV := (Below.alloc (Below.setCell (p := ⟨E, 3, none⟩) (Below.setCell (p := ⟨E, 2, none⟩) (Below.setCell (p := ⟨E, 1, none⟩) (Below.setCell (p := ⟨E, 0, none⟩) (hb.trans (hb2.mono hb.size)) (by first | omega | (simp <;> omega)) (.int .i64 x)) (by first | omega | (simp <;> omega)) (.int .i64 y)) (by first | omega | (simp <;> omega)) (.int .i64 z)) (by first | omega | (simp <;> omega)) (.int .i64 u)) (by first | omega | (simp <;> omega)) (.cells #[.int .i64 x, .int .i64 y, .int .i64 z, .int .i64 u] 32))
        have hWV := hw.below hBV hlk
        have hSV : ((((((w1.setCell ⟨E, 0, none⟩ (.int .i64 x)).setCell ⟨E, 1, none⟩ (.int .i64 y)).setCell ⟨E, 2, none⟩ (.int .i64 z)).setCell ⟨E, 3, none⟩ (.int .i64 u)).alloc (.cells #[.int .i64 x, .int .i64 y, .int .i64 z, .int .i64 u] 32))).heap.size = w1.heap.size + 1 := by simp
        obtain ⟨V, hV⟩ : ∃ V, (((((w1.setCell ⟨E, 0, none⟩ (.int .i64 x)).setCell ⟨E, 1, none⟩ (.int .i64 y)).setCell ⟨E, 2, none⟩ (.int .i64 z)).setCell ⟨E, 3, none⟩ (.int .i64 u)).alloc (.cells #[.int .i64 x, .int .i64 y, .int .i64 z, .int .i64 u] 32)) = V := ⟨_, rfl⟩
        rw [hV] at hNV hBV hWV hSV
        rw [hV]
        clear hV hN hb hb1 hb2 hz1 hN1 hW1 qA HQ hwr hd1 hd2 x0 x0a x1 x1a x2 x2a x3 x3a x4 x4a c00 c00a c10 c10a c20 c20a c30 c30a c31 c31a c32 c32a c33 c33a c40 c40a c41 c41a c42 c42a c43 c43a g0 g0a g1 g1a g2 g2a g3 g3a g4 g4a l0 l0a l1 l1a l2 l2a l3 l3a l4 l4a r0 r0a r1 r1a r2 r2a r3 r3a r4 r4a s0 s0a s1 s1a s2 s2a s3 s3a s4 s4a k0 k0a k1 k1a k2 k2a k3 k3a k4 k4a k5 k5a k6 k6a k7 k7a
        obtain ⟨Vo, rfl⟩ : ∃ Vo, Vo = wr := ⟨_, rfl⟩
        obtain ⟨hub1, hub2⟩ := hub
        go_loopg [13] lz (fun k v wi => ∃ d : Nat, v = .int .i64 (d : Int) ∧ 1 ≤ d ∧ d ≤ lz + 1 ∧ k = lz + 1 - d ∧ Hid (plater s e l dp a b c lz p li u = pgo (pbet s e l dp a b c p li u) p e lz (lz + 1 - d) d) ∧ Below V.heap.size V wi)
        case atStart => exact ⟨1, rfl, by omega, by omega, rfl, Lib.hid rfl, Below.refl _ _⟩
        case round =>
          obtain ⟨d, rfl, hd3, hd4, hgk, HG, hbi⟩ := hrel
          have HGI := Lib.hid hgk
          clear hgk
          have hNi := hNV.later hbi
          have hWi := hWV.later hbi
          have hBi : Below w.heap.size w wr := hBV.trans (hbi.mono hBV.size)
          have hq := hNi; obtain ⟨x0, x1, x2, x3, x4⟩ := hq; have c00 : wr.cell? ⟨w.heap.size, 0, none⟩ = some (.pointer (some ⟨bk, 0, none⟩)) := x0.cell 0; have g0 : ∀ i, wr.frozen? ⟨w.heap.size, i, none⟩ = false := (fun i => x0.frozen i); have l0 : w.heap.size < wr.heap.size := x0.lt; have r0 : ¬ w.heap.size = wr.heap.size := (by omega); have s0 : ¬ wr.heap.size = w.heap.size := (by omega); have c10 : wr.cell? ⟨B, 0, none⟩ = some (.int .i64 (p : Int)) := x1.cell 0; have g1 : ∀ i, wr.frozen? ⟨B, i, none⟩ = false := (fun i => x1.frozen i); have l1 : B < wr.heap.size := x1.lt; have r1 : ¬ B = wr.heap.size := (by omega); have s1 : ¬ wr.heap.size = B := (by omega); have c20 : wr.cell? ⟨C, 0, none⟩ = some (.int .i64 li) := x2.cell 0; have g2 : ∀ i, wr.frozen? ⟨C, i, none⟩ = false := (fun i => x2.frozen i); have l2 : C < wr.heap.size := x2.lt; have r2 : ¬ C = wr.heap.size := (by omega); have s2 : ¬ wr.heap.size = C := (by omega); have c30 : wr.cell? ⟨D, 0, none⟩ = some (.int .i64 0) := x3.cell 0; have c31 : wr.cell? ⟨D, 1, none⟩ = some (.int .i64 0) := x3.cell 1; have c32 : wr.cell? ⟨D, 2, none⟩ = some (.int .i64 0) := x3.cell 2; have c33 : wr.cell? ⟨D, 3, none⟩ = some (.int .i64 0) := x3.cell 3; have g3 : ∀ i, wr.frozen? ⟨D, i, none⟩ = false := (fun i => x3.frozen i); have l3 : D < wr.heap.size := x3.lt; have r3 : ¬ D = wr.heap.size := (by omega); have s3 : ¬ wr.heap.size = D := (by omega); have c40 : wr.cell? ⟨E, 0, none⟩ = some (.int .i64 x) := x4.cell 0; have c41 : wr.cell? ⟨E, 1, none⟩ = some (.int .i64 y) := x4.cell 1; have c42 : wr.cell? ⟨E, 2, none⟩ = some (.int .i64 z) := x4.cell 2; have c43 : wr.cell? ⟨E, 3, none⟩ = some (.int .i64 u) := x4.cell 3; have g4 : ∀ i, wr.frozen? ⟨E, i, none⟩ = false := (fun i => x4.frozen i); have l4 : E < wr.heap.size := x4.lt; have r4 : ¬ E = wr.heap.size := (by omega); have s4 : ¬ wr.heap.size = E := (by omega)
          have hk := hWi; obtain ⟨k0, k1, k2, k3, k4, k5, k6, k7⟩ := hk
          have a1 : IntKind.i64.wrap ((p : Int) + (d : Int)) = (p : Int) + (d : Int) := IntWalk.i64_in _ (by omega)
          by_cases hd5 : d ≤ lz
          · have e1 : decide (d ≤ lz) = true := by simpa using hd5
            have e2 : decide ((d : Int) ≤ (lz : Int)) = true := by simpa using hd5
            by_cases hd6 : p + d < e
            · have e3 : decide (p + d < e) = true := by simpa using hd6
              have e4 : decide ((p : Int) + (d : Int) < (e : Int)) = true := by simp; omega
              have qB := fun (w' : World) (h : Work w' bk a b c s e l dp lz) => better_s bk w.heap.size B C E p d a b c l dp lz li u s e w' hs (by omega) (by omega) hlb (by omega) hub1 hub2 h
              have hpg : pgo (pbet s e l dp a b c p li u) p e lz (lz + 1 - d) d = if pbet s e l dp a b c p li u d then d else pgo (pbet s e l dp a b c p li u) p e lz (lz + 1 - (d + 1)) (d + 1) := by
                obtain ⟨fu, hfu⟩ : ∃ fu, lz + 1 - d = fu + 1 := ⟨lz - d, by omega⟩
                rw [hfu, pgo, if_pos ⟨hd5, hd6⟩, show lz + 1 - (d + 1) = fu by omega]
              obtain ⟨bt, hbt⟩ : ∃ bt, pbet s e l dp a b c p li u d = bt := ⟨_, rfl⟩
              rw [hbt] at qB hpg
              have HPG := Lib.hid hpg
              clear hpg hbt
              cases bt
              · go_wp2
                go_quiet (fail)
                go_wp2_with (go_at_call 101; refine (qB _ (by first | exact hWi | exact hWi.drewN _) (by simp [go_sem, *]) (by simp [go_sem, *]) (by simp [go_sem, *]) (by simp [go_sem, *])).mono ?_; rintro en w2 ⟨rfl, hb3⟩; have hb4 : Below wr.heap.size wr w2 := (by repeat' (first | exact Below.refl _ _ | refine Below.drew ?_ | refine below_drewN ?_ _ | refine Below.alloc ?_ (by first | omega | (simp <;> omega)) _ | refine Below.setCell ?_ (by first | omega | (simp <;> omega)) _ | refine Below.trans ?_ (Below.mono (by assumption) (by first | omega | (simp <;> omega))))); have hN2 := hNi.later hb4; have hqb := hN2; obtain ⟨x0b, x1b, x2b, x3b, x4b⟩ := hqb; have c00b : w2.cell? ⟨w.heap.size, 0, none⟩ = some (.pointer (some ⟨bk, 0, none⟩)) := x0b.cell 0; have g0b : ∀ i, w2.frozen? ⟨w.heap.size, i, none⟩ = false := (fun i => x0b.frozen i); have l0b : w.heap.size < w2.heap.size := x0b.lt; have r0b : ¬ w.heap.size = w2.heap.size := (by omega); have s0b : ¬ w2.heap.size = w.heap.size := (by omega); have c10b : w2.cell? ⟨B, 0, none⟩ = some (.int .i64 (p : Int)) := x1b.cell 0; have g1b : ∀ i, w2.frozen? ⟨B, i, none⟩ = false := (fun i => x1b.frozen i); have l1b : B < w2.heap.size := x1b.lt; have r1b : ¬ B = w2.heap.size := (by omega); have s1b : ¬ w2.heap.size = B := (by omega); have c20b : w2.cell? ⟨C, 0, none⟩ = some (.int .i64 li) := x2b.cell 0; have g2b : ∀ i, w2.frozen? ⟨C, i, none⟩ = false := (fun i => x2b.frozen i); have l2b : C < w2.heap.size := x2b.lt; have r2b : ¬ C = w2.heap.size := (by omega); have s2b : ¬ w2.heap.size = C := (by omega); have c30b : w2.cell? ⟨D, 0, none⟩ = some (.int .i64 0) := x3b.cell 0; have c31b : w2.cell? ⟨D, 1, none⟩ = some (.int .i64 0) := x3b.cell 1; have c32b : w2.cell? ⟨D, 2, none⟩ = some (.int .i64 0) := x3b.cell 2; have c33b : w2.cell? ⟨D, 3, none⟩ = some (.int .i64 0) := x3b.cell 3; have g3b : ∀ i, w2.frozen? ⟨D, i, none⟩ = false := (fun i => x3b.frozen i); have l3b : D < w2.heap.size := x3b.lt; have r3b : ¬ D = w2.heap.size := (by omega); have s3b : ¬ w2.heap.size = D := (by omega); have c40b : w2.cell? ⟨E, 0, none⟩ = some (.int .i64 x) := x4b.cell 0; have c41b : w2.cell? ⟨E, 1, none⟩ = some (.int .i64 y) := x4b.cell 1; have c42b : w2.cell? ⟨E, 2, none⟩ = some (.int .i64 z) := x4b.cell 2; have c43b : w2.cell? ⟨E, 3, none⟩ = some (.int .i64 u) := x4b.cell 3; have g4b : ∀ i, w2.frozen? ⟨E, i, none⟩ = false := (fun i => x4b.frozen i); have l4b : E < w2.heap.size := x4b.lt; have r4b : ¬ E = w2.heap.size := (by omega); have s4b : ¬ w2.heap.size = E := (by omega))
                have hPX : plater s e l dp a b c lz p li u = pgo (pbet s e l dp a b c p li u) p e lz (lz + 1 - (d + 1)) (d + 1) := HG.out.trans (HPG.out.trans (by simp))
                have hBX := hbi.trans (hb4.mono hbi.size)
                go_roundg (lz + 1 - (d + 1))
                case measure => have := HGI.out; omega
                case rel => exact ⟨d + 1, by go_num, by omega, by omega, rfl, Lib.hid hPX, hBX⟩
              · go_wp2
                go_quiet (fail)
                go_wp2_with (go_at_call 101; refine (qB _ (by first | exact hWi | exact hWi.drewN _) (by simp [go_sem, *]) (by simp [go_sem, *]) (by simp [go_sem, *]) (by simp [go_sem, *])).mono ?_; rintro en w2 ⟨rfl, hb3⟩; have hb4 : Below wr.heap.size wr w2 := (by repeat' (first | exact Below.refl _ _ | refine Below.drew ?_ | refine below_drewN ?_ _ | refine Below.alloc ?_ (by first | omega | (simp <;> omega)) _ | refine Below.setCell ?_ (by first | omega | (simp <;> omega)) _ | refine Below.trans ?_ (Below.mono (by assumption) (by first | omega | (simp <;> omega))))); have hN2 := hNi.later hb4; have hqb := hN2; obtain ⟨x0b, x1b, x2b, x3b, x4b⟩ := hqb; have c00b : w2.cell? ⟨w.heap.size, 0, none⟩ = some (.pointer (some ⟨bk, 0, none⟩)) := x0b.cell 0; have g0b : ∀ i, w2.frozen? ⟨w.heap.size, i, none⟩ = false := (fun i => x0b.frozen i); have l0b : w.heap.size < w2.heap.size := x0b.lt; have r0b : ¬ w.heap.size = w2.heap.size := (by omega); have s0b : ¬ w2.heap.size = w.heap.size := (by omega); have c10b : w2.cell? ⟨B, 0, none⟩ = some (.int .i64 (p : Int)) := x1b.cell 0; have g1b : ∀ i, w2.frozen? ⟨B, i, none⟩ = false := (fun i => x1b.frozen i); have l1b : B < w2.heap.size := x1b.lt; have r1b : ¬ B = w2.heap.size := (by omega); have s1b : ¬ w2.heap.size = B := (by omega); have c20b : w2.cell? ⟨C, 0, none⟩ = some (.int .i64 li) := x2b.cell 0; have g2b : ∀ i, w2.frozen? ⟨C, i, none⟩ = false := (fun i => x2b.frozen i); have l2b : C < w2.heap.size := x2b.lt; have r2b : ¬ C = w2.heap.size := (by omega); have s2b : ¬ w2.heap.size = C := (by omega); have c30b : w2.cell? ⟨D, 0, none⟩ = some (.int .i64 0) := x3b.cell 0; have c31b : w2.cell? ⟨D, 1, none⟩ = some (.int .i64 0) := x3b.cell 1; have c32b : w2.cell? ⟨D, 2, none⟩ = some (.int .i64 0) := x3b.cell 2; have c33b : w2.cell? ⟨D, 3, none⟩ = some (.int .i64 0) := x3b.cell 3; have g3b : ∀ i, w2.frozen? ⟨D, i, none⟩ = false := (fun i => x3b.frozen i); have l3b : D < w2.heap.size := x3b.lt; have r3b : ¬ D = w2.heap.size := (by omega); have s3b : ¬ w2.heap.size = D := (by omega); have c40b : w2.cell? ⟨E, 0, none⟩ = some (.int .i64 x) := x4b.cell 0; have c41b : w2.cell? ⟨E, 1, none⟩ = some (.int .i64 y) := x4b.cell 1; have c42b : w2.cell? ⟨E, 2, none⟩ = some (.int .i64 z) := x4b.cell 2; have c43b : w2.cell? ⟨E, 3, none⟩ = some (.int .i64 u) := x4b.cell 3; have g4b : ∀ i, w2.frozen? ⟨E, i, none⟩ = false := (fun i => x4b.frozen i); have l4b : E < w2.heap.size := x4b.lt; have r4b : ¬ E = w2.heap.size := (by omega); have s4b : ¬ w2.heap.size = E := (by omega))
                have hPX : plater s e l dp a b c lz p li u = d := HG.out.trans (HPG.out.trans (by simp))
                have hNX : NBox w.heap.size B C D E bk (p + d) (li + (d : Int)) (x, y, z, u) (((w2.setCell ⟨B, 0, none⟩ (.int .i64 ((p : Int) + (d : Int)))).setCell ⟨C, 0, none⟩ (.int .i64 (li + (d : Int))))) := ⟨(by simpa using (Blk.other (Blk.other x0b (a := ⟨B, 0, none⟩) (by first | omega | (simp <;> omega)) (.int .i64 ((p : Int) + (d : Int)))) (a := ⟨C, 0, none⟩) (by first | omega | (simp <;> omega)) (.int .i64 (li + (d : Int))))), (by simpa using (Blk.other (x1b.set 0 (.int .i64 ((p : Int) + (d : Int)))) (a := ⟨C, 0, none⟩) (by first | omega | (simp <;> omega)) (.int .i64 (li + (d : Int))))), (by simpa using ((Blk.other x2b (a := ⟨B, 0, none⟩) (by first | omega | (simp <;> omega)) (.int .i64 ((p : Int) + (d : Int)))).set 0 (.int .i64 (li + (d : Int))))), (by simpa using (Blk.other (Blk.other x3b (a := ⟨B, 0, none⟩) (by first | omega | (simp <;> omega)) (.int .i64 ((p : Int) + (d : Int)))) (a := ⟨C, 0, none⟩) (by first | omega | (simp <;> omega)) (.int .i64 (li + (d : Int))))), (by simpa using (Blk.other (Blk.other x4b (a := ⟨B, 0, none⟩) (by first | omega | (simp <;> omega)) (.int .i64 ((p : Int) + (d : Int)))) (a := ⟨C, 0, none⟩) (by first | omega | (simp <;> omega)) (.int .i64 (li + (d : Int)))))⟩
                have hBX := (Below.setCell (p := ⟨C, 0, none⟩) (Below.setCell (p := ⟨B, 0, none⟩) (hBi.trans (hb4.mono hBi.size)) (by first | omega | (simp <;> omega)) (.int .i64 ((p : Int) + (d : Int)))) (by first | omega | (simp <;> omega)) (.int .i64 (li + (d : Int))))
                have hPY := HP.out.trans (HH.out.2 trivial d hPX (by omega))
                go_roundg (e - (p + d))
                case measure => have := HGK.out; omega
                case rel => exact ⟨p + d, li + (d : Int), (x, y, z, u), by omega, by omega, rfl, by rw [HLI.out]; omega, Lib.hid hPY, hBX, hNX⟩
            · have e3 : decide (p + d < e) = false := by simpa using hd6
              have e4 : decide ((p : Int) + (d : Int) < (e : Int)) = false := by simp; omega
              go_wp2
              go_quiet (fail)
              go_wp2
              have hPX : plater s e l dp a b c lz p li u = 0 := HG.out.trans (by
                cases hff : lz + 1 - d with
                | zero => rfl
                | succ f => rw [pgo, if_neg (fun h => by omega)])
              have HPY := Lib.hid (HP.out.trans (HH.out.1 trivial hPX))
              clear hPX
              go_region
              go_wp2
              (try rw [Exit.noGoto_ret])
              refine bodyPost_ret (v := .tuple #[.int .i64 (p : Int), .agg #[.int .i64 x, .int .i64 y, .int .i64 z, .int .i64 u], .bool true]) (by simp [results, Try.results77, go_sem, *]) rfl ?_
              rw [HPY.out]
              refine ⟨rfl, ?_⟩
              repeat' (first | exact Below.refl _ _ | refine Below.drew ?_ | refine below_drewN ?_ _ | refine Below.alloc ?_ (by first | omega | (simp <;> omega)) _ | refine Below.setCell ?_ (by first | omega | (simp <;> omega)) _ | refine Below.trans ?_ (Below.mono (by assumption) (by first | omega | (simp <;> omega))))
          · have e1 : decide (d ≤ lz) = false := by simpa using hd5
            have e2 : decide ((d : Int) ≤ (lz : Int)) = false := by simpa using hd5
            go_wp2
            go_quiet (fail)
            go_wp2
            have hPX : plater s e l dp a b c lz p li u = 0 := HG.out.trans (by
              cases hff : lz + 1 - d with
              | zero => rfl
              | succ f => rw [pgo, if_neg (fun h => by omega)])
            have HPY := Lib.hid (HP.out.trans (HH.out.1 trivial hPX))
            clear hPX
            go_region
            go_wp2
            (try rw [Exit.noGoto_ret])
            refine bodyPost_ret (v := .tuple #[.int .i64 (p : Int), .agg #[.int .i64 x, .int .i64 y, .int .i64 z, .int .i64 u], .bool true]) (by simp [results, Try.results77, go_sem, *]) rfl ?_
            rw [HPY.out]
            refine ⟨rfl, ?_⟩
            repeat' (first | exact Below.refl _ _ | refine Below.drew ?_ | refine below_drewN ?_ _ | refine Below.alloc ?_ (by first | omega | (simp <;> omega)) _ | refine Below.setCell ?_ (by first | omega | (simp <;> omega)) _ | refine Below.trans ?_ (Below.mono (by assumption) (by first | omega | (simp <;> omega))))
    · have hd1 : decide (p < e) = false := by simpa using hpe
      have hd2 : decide ((p : Int) < (e : Int)) = false := by simpa using hpe
      have hPY := HP.out.trans (pnext_end s e l dp a b c lz p li hpe)
      go_wp2
      go_quiet (fail)
      go_wp2
      (try rw [Exit.noGoto_ret])
      refine bodyPost_ret (v := .tuple #[.int .i64 (e : Int), .agg #[.int .i64 0, .int .i64 0, .int .i64 0, .int .i64 0], .bool false]) (by simp [results, Try.results77, go_sem, *]) rfl ?_
      rw [hPY]
      refine ⟨rfl, ?_⟩
      repeat' (first | exact Below.refl _ _ | refine Below.drew ?_ | refine below_drewN ?_ _ | refine Below.alloc ?_ (by first | omega | (simp <;> omega)) _ | refine Below.setCell ?_ (by first | omega | (simp <;> omega)) _ | refine Below.trans ?_ (Below.mono (by assumption) (by first | omega | (simp <;> omega))))
end Go.Proofs.Ytammacofhdbgcaa
