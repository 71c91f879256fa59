/-
  The best match of some, walked: of the reference.
-/
import Derived.Test.YtammacofhdbgcaaRows
import Derived.Test.YtammacofhdbgcaaMatch3
import Derived.Test.YtammacofhdbgcaaCommon
import Derived.Deep.Light
import Derived.Shelf.Abstract
import Derived.Shelf.RegionOpen
import Derived.OwnWalkIn
import Derived.TacticsInMore
import Derived.LoopNIn
import Derived.LoopIn
import Derived.Outline
import Derived.Deep.RegionHeld3
namespace Go.Proofs.Ytammacofhdbgcaa
open Go.RowKit
set_option linter.unusedSimpArgs false
set_option linter.unusedVariables false
open Go.Shelf
attribute [local go_sem] Oper.semAt_some

/-- A match in a box. -/
def MBox (w : World) (b : Nat) (m : Int × Int × Int × Int) : Prop :=
  w.cell? ⟨b, 0, none⟩ = some (.int .i64 m.1) ∧ w.cell? ⟨b, 1, none⟩ = some (.int .i64 m.2.1) ∧ w.cell? ⟨b, 2, none⟩ = some (.int .i64 m.2.2.1) ∧ w.cell? ⟨b, 3, none⟩ = some (.int .i64 m.2.2.2) ∧ ∀ j, w.frozen? ⟨b, j, none⟩ = false
theorem cell_lt_m {w : World} {a : Addr} {v : Value} (h : w.cell? a = some v) : a.block < w.heap.size := by
  unfold World.cell? at h
  cases ho : w.heap[a.block]? with
  | none => simp [ho] at h
  | some o => exact (Array.getElem?_eq_some_iff.1 ho).1
theorem MBox.below {w w' : World} {B b : Nat} {m : Int × Int × Int × Int} (h : MBox w b m) (hb : Below B w w') (hl : b < B) : MBox w' b m := by
  obtain ⟨h1, h2, h3, h4, h5⟩ := h
  exact ⟨(hb.cell (p := ⟨b, 0, none⟩) hl).trans h1, (hb.cell (p := ⟨b, 1, none⟩) hl).trans h2, (hb.cell (p := ⟨b, 2, none⟩) hl).trans h3, (hb.cell (p := ⟨b, 3, none⟩) hl).trans h4, fun j => (hb.frozen (p := ⟨b, j, none⟩) hl).trans (h5 j)⟩
theorem MBox.later {w w' : World} {b : Nat} {m : Int × Int × Int × Int} (h : MBox w b m) (hb : Below w.heap.size w w') : MBox w' b m := h.below hb (cell_lt_m h.1)
set_option maxRecDepth 100000 in
set_option maxHeartbeats 4000000 in
theorem rbest_1 (a : Option Addr) (ms : List (Int × Int × Int × Int)) (cap : Nat) (w : World) (ha : RowM w a ms) (hl : ms.length ≤ 9223372036854775807) (hn : 0 < ms.length) :
    Calls Try.prog 31 #[.slice a ms.length cap] w fun e w' => e = .returned (.tuple #[.agg #[.int .i64 (mbest ms).1, .int .i64 (mbest ms).2.1, .int .i64 (mbest ms).2.2.1, .int .i64 (mbest ms).2.2.2], .bool true]) ∧ Below w.heap.size w w' := by
  obtain ⟨⟨fd, fl, fv, fg⟩, hMB⟩ : ∃ m, mbest ms = m := ⟨_, rfl⟩
  rw [hMB]
  have HMB := Lib.hid hMB
  clear hMB
  dsimp only
  have hn0 : ((ms.length : Int) == 0) = false := by
    have : (ms.length : Int) ≠ 0 := by omega
    simpa using this
  obtain ⟨b1, o1, rfl, hb1, hc1⟩ := ha.at hn
  obtain ⟨c0, c1, c2, c3⟩ := hc1 0 hn
  have h1 := mbF_one ms
  obtain ⟨⟨xd, xl, xv, xg⟩, hx⟩ : ∃ q, ms.getD 0 (0, 0, 0, 0) = q := ⟨_, rfl⟩
  rw [hx] at c0 c1 c2 c3 h1
  dsimp only at c0 c1 c2 c3
  simp only [Nat.zero_mul, Nat.add_zero] at c0 c1 c2 c3
  have i1 : (0 : Int) < (ms.length : Int) := by omega
  have H1 := Lib.hid h1
  have hc : w.heap.size ≠ b1 := by omega
  have hc' : ¬ b1 = w.heap.size := by omega
  clear hc1 hx h1
  go_enter Try.func31, Try.ntmps31
  go_wp2
  obtain ⟨W0, hW0⟩ : ∃ W0, (w.alloc (.cells #[.int .i64 0, .int .i64 0, .int .i64 0, .int .i64 0] 32)).alloc (.cells #[.int .i64 xd, .int .i64 xl, .int .i64 xv, .int .i64 xg] 32) = W0 := ⟨_, rfl⟩
  have hR : MBox W0 w.heap.size (0, 0, 0, 0) := by rw [← hW0]; exact ⟨by simp [go_sem], by simp [go_sem], by simp [go_sem], by simp [go_sem], fun j => by simp [go_sem]⟩
  have hM : MBox W0 (w.heap.size + 1) (mbF ms 1) := by rw [← hW0, H1.out]; exact ⟨by simp [go_sem], by simp [go_sem], by simp [go_sem], by simp [go_sem], fun j => by simp [go_sem]⟩
  have B0 : Below w.heap.size w W0 := by rw [← hW0]; repeat' (first | exact Below.refl _ _ | refine Below.drew ?_ | refine below_drewN ?_ _ | refine Below.alloc ?_ (by first | omega | (simp <;> omega)) _ | refine Below.setCell ?_ (by first | omega | (simp <;> omega)) _ | refine Below.trans ?_ (Below.mono (by assumption) (by first | omega | (simp <;> omega))))
  obtain ⟨bM, hbM⟩ : ∃ x, w.heap.size + 1 = x := ⟨_, rfl⟩
  obtain ⟨bR, hbR⟩ : ∃ x, w.heap.size = x := ⟨_, rfl⟩
  rw [hW0]
  rw [hbM] at hM ⊢
  have HA := Lib.hid ha
  have HBR := Lib.hid hbR
  have hbM2 : bM = bR + 1 := by omega
  rw [hbR] at hR B0 ⊢
  have HBM := Lib.hid hbM2
  clear hW0 c0 c1 c2 c3 hc hc' H1 hbM hbR hbM2 ha i1 hn0
  go_loopw [5] (fun v wr => ∃ k : Nat, v = .int .i64 (k : Int) ∧ 1 ≤ k ∧ k ≤ ms.length ∧ MBox wr bM (mbF ms k) ∧ MBox wr bR (0, 0, 0, 0) ∧ Below bR w wr) (fun v _ => ms.length - (intOf v).toNat)
  case atStart => exact ⟨1, rfl, by omega, by omega, hM, hR, B0⟩
  case round =>
    clear hM hR B0
    obtain ⟨k, rfl, hk1, hk, hM, hR, hb⟩ := hrel
    have hbm := HBM.out
    have n1 : ¬ bM = bR := by omega
    have n2 : ¬ bR = bM := by omega
    have lM := cell_lt_m hM.1
    have lR := cell_lt_m hR.1
    dsimp only at lM lR
    by_cases hlt : k < ms.length
    · obtain ⟨b2, o2, he2, hb2, hc2⟩ := (HA.out.later (by rw [HBR.out]; exact hb)).at hlt
      cases he2
      have n3 : ¬ b1 = bM := by have := HBR.out; omega
      have n4 : ¬ bM = b1 := fun h => n3 h.symm
      obtain ⟨c0, c1, c2, c3⟩ := hc2 k hlt
      have hsu : mbF ms (k + 1) = if mbet (ms.getD k (0, 0, 0, 0)) (mbF ms k) then ms.getD k (0, 0, 0, 0) else mbF ms k := rfl
      obtain ⟨⟨xd, xl, xv, xg⟩, hx⟩ : ∃ q, ms.getD k (0, 0, 0, 0) = q := ⟨_, rfl⟩
      obtain ⟨⟨md, ml, mv, mg⟩, hm⟩ : ∃ q, mbF ms k = q := ⟨_, rfl⟩
      rw [hx] at c0 c1 c2 c3 hsu
      rw [hm] at hM hsu
      have HM := Lib.hid hM
      have HR := Lib.hid hR
      obtain ⟨m0, m1, m2, m3, m4⟩ := hM
      dsimp only at c0 c1 c2 c3 m0 m1 m2 m3
      have qB := fun w => rbetter_0 xd xl xv xg md ml mv mg w
      obtain ⟨z, hz⟩ : ∃ z, mbet (xd, xl, xv, xg) (md, ml, mv, mg) = z := ⟨_, rfl⟩
      rw [hz] at qB hsu
      have HSU := Lib.hid hsu
      have i0 : (0 : Int) ≤ (k : Int) := by omega
      have i1 : (k : Int) < (ms.length : Int) := by omega
      clear hc2 hx hm hz hsu hR hbm
      go_wp2
      go_region_held3 (fun w' => w'.cell? ⟨b1, o1 + k * 4, none⟩ = some (.int .i64 xd) ∧ w'.cell? ⟨b1, o1 + k * 4 + 1, none⟩ = some (.int .i64 xl) ∧ w'.cell? ⟨b1, o1 + k * 4 + 2, none⟩ = some (.int .i64 xv) ∧ w'.cell? ⟨b1, o1 + k * 4 + 3, none⟩ = some (.int .i64 xg) ∧ w'.cell? ⟨bM, 0, none⟩ = some (.int .i64 md) ∧ w'.cell? ⟨bM, 1, none⟩ = some (.int .i64 ml) ∧ w'.cell? ⟨bM, 2, none⟩ = some (.int .i64 mv) ∧ w'.cell? ⟨bM, 3, none⟩ = some (.int .i64 mg)) (first | (simp [go_sem, *]; done) | go_keep) ((go_at_call 33; refine (qB _).mono ?_; rintro e w3 ⟨rfl, hb6⟩; have hs6 := hb6.size; (try simp at hs6); have y0 : w3.cell? ⟨b1, o1 + k * 4, none⟩ = some (.int .i64 xd) := (hb6.cell (p := ⟨b1, o1 + k * 4, none⟩) (by simp; omega)).trans (by simp [go_sem, c0]); have y1 : w3.cell? ⟨b1, o1 + k * 4 + 1, none⟩ = some (.int .i64 xl) := (hb6.cell (p := ⟨b1, o1 + k * 4 + 1, none⟩) (by simp; omega)).trans (by simp [go_sem, c1]); have y2 : w3.cell? ⟨b1, o1 + k * 4 + 2, none⟩ = some (.int .i64 xv) := (hb6.cell (p := ⟨b1, o1 + k * 4 + 2, none⟩) (by simp; omega)).trans (by simp [go_sem, c2]); have y3 : w3.cell? ⟨b1, o1 + k * 4 + 3, none⟩ = some (.int .i64 xg) := (hb6.cell (p := ⟨b1, o1 + k * 4 + 3, none⟩) (by simp; omega)).trans (by simp [go_sem, c3]); have z0 : w3.cell? ⟨bM, 0, none⟩ = some (.int .i64 md) := (hb6.cell (p := ⟨bM, 0, none⟩) (by simp; omega)).trans (by simp [go_sem, m0]); have z1 : w3.cell? ⟨bM, 1, none⟩ = some (.int .i64 ml) := (hb6.cell (p := ⟨bM, 1, none⟩) (by simp; omega)).trans (by simp [go_sem, m1]); have z2 : w3.cell? ⟨bM, 2, none⟩ = some (.int .i64 mv) := (hb6.cell (p := ⟨bM, 2, none⟩) (by simp; omega)).trans (by simp [go_sem, m2]); have z3 : w3.cell? ⟨bM, 3, none⟩ = some (.int .i64 mg) := (hb6.cell (p := ⟨bM, 3, none⟩) (by simp; omega)).trans (by simp [go_sem, m3])))
      have hbw : Below wr.heap.size wr w3 := by repeat' (first | exact Below.refl _ _ | refine Below.drew ?_ | refine below_drewN ?_ _ | refine Below.alloc ?_ (by first | omega | (simp <;> omega)) _ | refine Below.setCell ?_ (by first | omega | (simp <;> omega)) _ | refine Below.trans ?_ (Below.mono (by assumption) (by first | omega | (simp <;> omega))))
      have hM3 := HM.out.later hbw
      have hR3 := HR.out.later hbw
      have hB3 := hb.trans (hbw.mono (by have := hb.size; omega))
      obtain ⟨f0, f1, f2, f3, f4⟩ := hM3
      have f40 := f4 0
      have f41 := f4 1
      have f42 := f4 2
      have f43 := f4 3
      have hz3 : bR < w3.heap.size ∧ bM < w3.heap.size := ⟨cell_lt_m hR3.1, cell_lt_m f0⟩
      have HM3 := Lib.hid (show MBox w3 bM (md, ml, mv, mg) from ⟨f0, f1, f2, f3, f4⟩)
      have HR3 := Lib.hid hR3
      dsimp only at f0 f1 f2 f3
      clear m0 m1 m2 m3 m4 c0 c1 c2 c3 HM HR hb6 hbw hR3
      cases z
      · go_wp2
        go_roundw
        case rel => exact ⟨k + 1, by go_num, by omega, by omega, by rw [HSU.out]; exact HM3.out, HR3.out, hB3⟩
        case measure => go_light; simp [intOf] <;> omega
      · go_wp2
        go_roundw
        case rel =>
          refine ⟨k + 1, by go_num, by omega, by omega, ?_, ?_, ((((hB3.setCell (by have := HBM.out; simp; omega) _).setCell (by have := HBM.out; simp; omega) _).setCell (by have := HBM.out; simp; omega) _).setCell (by have := HBM.out; simp; omega) _)⟩
          · rw [HSU.out]
            exact ⟨by simp [go_sem, *], by simp [go_sem, *], by simp [go_sem, *], by simp [go_sem, *], fun j => by simp [go_sem, *]⟩
          · obtain ⟨g0, g1, g2, g3, g4⟩ := HR3.out
            exact ⟨by simp [go_sem, n1, n2, g0], by simp [go_sem, n1, n2, g1], by simp [go_sem, n1, n2, g2], by simp [go_sem, n1, n2, g3], fun j => by simp [go_sem, n1, n2, g4]⟩
        case measure => go_light; simp [intOf] <;> omega
    · obtain rfl : k = ms.length := by omega
      have HM := Lib.hid hM
      obtain ⟨m0, m1, m2, m3, m4⟩ := hM
      obtain ⟨g0, g1, g2, g3, g4⟩ := hR
      have g40 := g4 0
      have g41 := g4 1
      have g42 := g4 2
      have g43 := g4 3
      have hq : mbF ms ms.length = (fd, fl, fv, fg) := HMB.out
      rw [hq] at m0 m1 m2 m3
      clear hq HM HMB hbm
      dsimp only at m0 m1 m2 m3 g0 g1 g2 g3
      go_wp2
      go_light
      refine bodyPost_ret (v := .tuple #[.agg #[.int .i64 fd, .int .i64 fl, .int .i64 fv, .int .i64 fg], .bool true]) (by simp [results, Try.results31, go_sem, *]) rfl ⟨rfl, ?_⟩
      rw [HBR.out]
      repeat' (first | exact Below.refl _ _ | refine Below.drew ?_ | refine below_drewN ?_ _ | refine Below.alloc ?_ (by first | omega | (simp <;> omega)) _ | refine Below.setCell ?_ (by first | omega | (simp <;> omega)) _ | refine Below.trans ?_ (Below.mono (by assumption) (by first | omega | (simp <;> omega))))
end Go.Proofs.Ytammacofhdbgcaa
