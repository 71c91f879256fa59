/-
  Slices of sequences that are read; the iterator of Run, walked.
-/
import Derived.Test.YtenhglamnpmkaaaRows
import Derived.Test.YtenhglamnpmkaaaRepsValues
import Derived.Test.YtenhglamnpmkaaaRepsPlain4
import Derived.Test.YtenhglamnpmkaaaRangeK
import Derived.Test.YtenhglamnpmkaaaKnSame
import Derived.WalkMore
import Derived.Test.YtenhglamnpmkaaaCommon
import Derived.Deep.Light
import Derived.Shelf.Abstract
import Derived.Shelf.RegionOpen
import Derived.OwnWalkIn
import Derived.TacticsInMore
import Derived.LoopNIn
import Derived.LoopIn
namespace Go.Proofs.Ytenhglamnpmkaaa
open Go.RowKit
set_option linter.unusedSimpArgs false
set_option linter.unusedVariables false
open Go.Shelf
attribute [local go_sem] eq23 idx23_0 idx23_1 idx23_2 tup Oper.semAt_some

/-- The slice's address leads to a row of sequences: literals, match, value. -/
def RowQ (w : World) (a : Option Addr) (qs : List (Int × Int × Int)) : Prop :=
  qs = [] ∨ ∃ b off, a = some ⟨b, off, none⟩ ∧ b < w.heap.size ∧ ∀ i, i < qs.length → w.cell? ⟨b, off + i * 3, none⟩ = some (.int .i64 (qs.getD i (0, 0, 0)).1) ∧ w.cell? ⟨b, off + i * 3 + 1, none⟩ = some (.int .i64 (qs.getD i (0, 0, 0)).2.1) ∧ w.cell? ⟨b, off + i * 3 + 2, none⟩ = some (.int .i64 (qs.getD i (0, 0, 0)).2.2)
theorem RowQ.later {w w' : World} {a : Option Addr} {qs : List (Int × Int × Int)} (h : RowQ w a qs) (hb : Below w.heap.size w w') : RowQ w' a qs := by
  rcases h with h | ⟨b, off, ha, hlt, hc⟩
  · exact .inl h
  · refine .inr ⟨b, off, ha, Nat.lt_of_lt_of_le hlt hb.size, fun i hi => ?_⟩
    obtain ⟨h1, h2, h3⟩ := hc i hi
    exact ⟨(hb.cell (p := ⟨b, off + i * 3, none⟩) hlt).trans h1, (hb.cell (p := ⟨b, off + i * 3 + 1, none⟩) hlt).trans h2, (hb.cell (p := ⟨b, off + i * 3 + 2, none⟩) hlt).trans h3⟩
theorem RowQ.at {w : World} {a : Option Addr} {qs : List (Int × Int × Int)} (h : RowQ w a qs) {i : Nat} (hi : i < qs.length) :
    ∃ b off, a = some ⟨b, off, none⟩ ∧ b < w.heap.size ∧ ∀ i, i < qs.length → w.cell? ⟨b, off + i * 3, none⟩ = some (.int .i64 (qs.getD i (0, 0, 0)).1) ∧ w.cell? ⟨b, off + i * 3 + 1, none⟩ = some (.int .i64 (qs.getD i (0, 0, 0)).2.1) ∧ w.cell? ⟨b, off + i * 3 + 2, none⟩ = some (.int .i64 (qs.getD i (0, 0, 0)).2.2) := by
  rcases h with h | h
  · subst h; simp at hi
  · exact h
/-- A history in a box. -/
def Hist (w : World) (b : Nat) (h : Int × Int × Int) : Prop :=
  w.cell? ⟨b, 0, none⟩ = some (.int .i64 h.1) ∧ w.cell? ⟨b, 1, none⟩ = some (.int .i64 h.2.1) ∧ w.cell? ⟨b, 2, none⟩ = some (.int .i64 h.2.2) ∧ ∀ j, w.frozen? ⟨b, j, none⟩ = false
theorem cell_lt {w : World} {a : Addr} {v : Value} (h : w.cell? a = some v) : a.block < w.heap.size := by
  unfold World.cell? at h
  cases ho : w.heap[a.block]? with
  | none => simp [ho] at h
  | some o => exact (Array.getElem?_eq_some_iff.1 ho).1
theorem Hist.later {w w' : World} {b : Nat} {h : Int × Int × Int} (hh : Hist w b h) (hb : Below w.heap.size w w') : Hist w' b h := by
  obtain ⟨h1, h2, h3, h4⟩ := hh
  have := cell_lt h1
  exact ⟨(hb.cell (p := ⟨b, 0, none⟩) this).trans h1, (hb.cell (p := ⟨b, 1, none⟩) this).trans h2, (hb.cell (p := ⟨b, 2, none⟩) this).trans h3, fun j => (hb.frozen (p := ⟨b, j, none⟩) this).trans (h4 j)⟩
theorem Stay.frozen_of {S : Nat → Prop} {X Y : World} (h : Stay S X Y) {b : Nat} (hs : S b) (hl : b < X.heap.size) (j : Nat) : Y.frozen? ⟨b, j, none⟩ = X.frozen? ⟨b, j, none⟩ := by
  unfold World.frozen?
  have ho : X.heap[b]? = some (X.heap[b]) := Array.getElem?_eq_getElem hl
  rw [h _ _ hs ho, ho]
theorem Hist.stay {S : Nat → Prop} {X Y : World} {b : Nat} {h : Int × Int × Int} (hh : Hist X b h) (hS : Stay S X Y) (hs : S b) : Hist Y b h := by
  obtain ⟨h1, h2, h3, h4⟩ := hh
  exact ⟨hS.cell (a := ⟨b, 0, none⟩) hs h1, hS.cell (a := ⟨b, 1, none⟩) hs h2, hS.cell (a := ⟨b, 2, none⟩) hs h3, fun j => (hS.frozen_of hs (cell_lt h1) j).trans (h4 j)⟩
theorem but_hist (X : World) (bn : Nat) (u v t : Value) : But (fun k => k = bn) X (((X.setCell ⟨bn, 0, none⟩ u).setCell ⟨bn, 1, none⟩ v).setCell ⟨bn, 2, none⟩ t) :=
  ((But.setCell (S := fun k => k = bn) X (a := ⟨bn, 0, none⟩) u rfl).trans (But.setCell (S := fun k => k = bn) _ (a := ⟨bn, 1, none⟩) v rfl)).trans (But.setCell (S := fun k => k = bn) _ (a := ⟨bn, 2, none⟩) t rfl)
set_option maxRecDepth 100000 in
set_option maxHeartbeats 2000000 in
theorem run_iter (qs : List (Int × Int × Int)) (a : Option Addr) (cap bl bn l : Nat) (H : Int × Int × Int) (hm : qs.length ≤ 9223372036854775807) (J : Nat → World → Prop) (Jx : World → Prop) (W : World)
    (hst : ∀ i X Y, But (fun k => k = bn) X Y → J i X → J i Y) (hF : ∀ i X, J i X → X.cell? ⟨bl, 0, none⟩ = some (.slice a qs.length cap) ∧ RowQ X a qs)
    (hr : ∀ i X, i < qs.length → J i X → RoundOk Try.prog l #[.agg #[.int .i64 (rak H qs i).1, .int .i64 (rak H qs i).2.2]] X (fun W' => J (i + 1) W' ∧ Stay (fun k => k = bn) X W') (fun W' => Jx W' ∧ Stay (fun k => k = bn) X W')) (h0 : J 0 W) (hh : Hist W bn H) :
    Calls Try.prog 60 #[.func (.yield l) #[] #[], .pointer (some ⟨bl, 0, none⟩), .pointer (some ⟨bn, 0, none⟩)] W fun e W' => (∃ v, e = .returned v) ∧ ((J qs.length W' ∧ Hist W' bn (rsts H qs qs.length)) ∨ (Jx W' ∧ ∃ h, Hist W' bn h)) := by
  refine callsIn_wide (n := 0) |>.1 (callsIn_of_wp Try.func60 rfl trivial ?_ rfl)
  simp only [Try.ntmps60, List.size_toArray, List.length_cons, List.length_nil, Nat.reduceAdd, Nat.reduceSub, Array.replicate_succ, Array.replicate_zero, List.push_toArray, List.append_toArray, List.nil_append, List.cons_append]
  have hc0 := (hF 0 W h0).1
  have HH := Lib.hid hh
  clear hh
  gi_wp2
  gi_loopw [11] (fun v wr => ∃ k : Nat, v = .int .i64 k ∧ k ≤ qs.length ∧ J k wr ∧ Hid (Hist wr bn (rsts H qs k))) (fun v wr => qs.length - (intOf v).toNat)
  case atStart => exact ⟨0, rfl, by omega, h0, HH⟩
  case round =>
    clear HH hc0
    obtain ⟨k, rfl, hk, hj, HH⟩ := hrel
    by_cases hlt : k < qs.length
    · obtain ⟨hcx, hrow⟩ := hF _ wr hj
      obtain ⟨b1, o1, rfl, hb1, hc1⟩ := hrow.at hlt
      obtain ⟨c1, c2, c3⟩ := hc1 k hlt
      have hR := fun X => hr k X hlt
      obtain ⟨h1, h2, h3, h4⟩ := HH.out
      have hsu := rsts_succ H qs k hlt
      have hra : rak H qs k = Rask (rsts H qs k).1 (rsts H qs k).2.1 (rsts H qs k).2.2 (qs.getD k (0, 0, 0)).2.2 (qs.getD k (0, 0, 0)).1 := rfl
      obtain ⟨⟨x, y, z⟩, hxyz⟩ : ∃ h, rsts H qs k = h := ⟨_, rfl⟩
      obtain ⟨⟨li, ma, of⟩, hq⟩ : ∃ q, qs.getD k (0, 0, 0) = q := ⟨_, rfl⟩
      rw [hxyz, hq] at hra
      rw [hxyz] at h1 h2 h3 hsu
      rw [hq] at c1 c2 c3
      dsimp only at h1 h2 h3 c1 c2 c3 hra
      obtain ⟨R, hRR⟩ : ∃ R, rak H qs k = R := ⟨_, rfl⟩
      rw [hRR] at hra hsu hR
      have qA := fun w => asked_p x y z of li w
      rw [← hra] at qA
      clear hra
      obtain ⟨rd, ⟨x', y', z'⟩, re⟩ := R
      dsimp only at hR hsu
      have HSU := Lib.hid hsu
      have i0 : (0 : Int) ≤ (k : Int) := by omega
      have i1 : (k : Int) < (qs.length : Int) := by omega
      have hbn : bn < wr.heap.size := cell_lt h1
      have HR := Lib.hid hR
      have HST := Lib.hid hst
      have HJ := Lib.hid hj
      clear hc1 hcx hrow hq hxyz hsu hRR hr hst hj hF hR
      have hn1 : ¬ bn = wr.heap.size := by omega
      have hn2 : ¬ wr.heap.size = bn := by omega
      by_cases he : re = 0
      · subst he
        gi_wp2
        refine ⟨trivial, rfl, (callsIn_wide.2 (qA _)).mono ?_⟩
        rintro e w1 ⟨rfl, hbA⟩
        have hsA := hbA.size
        simp at hsA
        have hbw : Below wr.heap.size wr w1 := ((Below.refl _ wr).alloc (Nat.le_refl _) _).trans (hbA.mono (by simp))
        obtain ⟨e1, e2, e3, e4⟩ := (show Hist wr bn (x, y, z) from ⟨h1, h2, h3, h4⟩).later hbw
        dsimp only at e1 e2 e3
        have hn3 : ¬ bn = w1.heap.size := by omega
        have hn4 : ¬ w1.heap.size = bn := by omega
        have hn5 : bn < w1.heap.size := by omega
        clear h1 h2 h3 h4
        gi_wp2
        have hbu : But (fun k => k = bn) wr ((((w1.setCell ⟨bn, 0, none⟩ (.int .i64 x')).setCell ⟨bn, 1, none⟩ (.int .i64 y')).setCell ⟨bn, 2, none⟩ (.int .i64 z')).alloc (.cells #[.int .i64 x', .int .i64 y', .int .i64 z'] 23)) := ((But.of_below hbw).trans (but_hist _ _ _ _ _)).trans (But.of_below ((Below.refl _ _).alloc (Nat.le_refl _) _))
        have hh3 : Hist ((((w1.setCell ⟨bn, 0, none⟩ (.int .i64 x')).setCell ⟨bn, 1, none⟩ (.int .i64 y')).setCell ⟨bn, 2, none⟩ (.int .i64 z')).alloc (.cells #[.int .i64 x', .int .i64 y', .int .i64 z'] 23)) bn (x', y', z') := ⟨by simp [go_sem, hn4, hn5, e1], by simp [go_sem, hn4, hn5, e2], by simp [go_sem, hn4, hn5, e3], fun j => by simp [go_sem, hn4, hn5, e4]⟩
        obtain ⟨W3, hW3⟩ : ∃ W3, ((((w1.setCell ⟨bn, 0, none⟩ (.int .i64 x')).setCell ⟨bn, 1, none⟩ (.int .i64 y')).setCell ⟨bn, 2, none⟩ (.int .i64 z')).alloc (.cells #[.int .i64 x', .int .i64 y', .int .i64 z'] 23)) = W3 := ⟨_, rfl⟩
        rw [hW3] at hbu hh3 ⊢
        obtain ⟨fn, tmps, assign, body, hy, hRo⟩ := HR.out _ (HST.out _ _ _ hbu HJ.out)
        have HH3 := Lib.hid hh3
        clear hW3 hbu hh3 e1 e2 e3 e4
        gi_wp2
        refine ⟨rfl, hRo.mono ?_⟩
        rintro e W4 (⟨rfl, hJ3, hS3⟩ | ⟨rfl, hJx3, hSx⟩)
        · gi_wp2
          go_roundw
          case rel => exact ⟨k + 1, by go_num, by omega, hJ3, Lib.hid (by rw [HSU.out]; (first | rw [if_pos rfl] | rw [if_pos trivial]); exact HH3.out.stay hS3 rfl)⟩
          case measure => go_light; simp [intOf] <;> omega
        · gi_wp2
          refine bodyPost_ret (results_none rfl _ _ _) rfl ?_
          exact ⟨⟨_, rfl⟩, .inr ⟨hJx3, _, HH3.out.stay hSx rfl⟩⟩
      · have he2 : (re == 0) = false := by simpa using he
        gi_wp2
        refine ⟨trivial, rfl, (callsIn_wide.2 (qA _)).mono ?_⟩
        rintro e w1 ⟨rfl, hbA⟩
        have hsA := hbA.size
        simp at hsA
        have hbw : Below wr.heap.size wr w1 := ((Below.refl _ wr).alloc (Nat.le_refl _) _).trans (hbA.mono (by simp))
        have HHX := Lib.hid (show Hist wr bn (x, y, z) from ⟨h1, h2, h3, h4⟩)
        clear h1 h2 h3 h4
        gi_wp2
        have hbw2 : Below wr.heap.size wr (w1.alloc (.cells #[.int .i64 x', .int .i64 y', .int .i64 z'] 23)) := hbw.alloc (by omega) _
        have hh3 := HHX.out.later hbw2
        obtain ⟨W3, hW3⟩ : ∃ W3, w1.alloc (.cells #[.int .i64 x', .int .i64 y', .int .i64 z'] 23) = W3 := ⟨_, rfl⟩
        rw [hW3] at hbw2 hh3 ⊢
        obtain ⟨fn, tmps, assign, body, hy, hRo⟩ := HR.out _ (HST.out _ _ _ (But.of_below hbw2) HJ.out)
        have HH3 := Lib.hid hh3
        clear hW3 hbw hbw2 hh3
        gi_wp2
        refine ⟨rfl, hRo.mono ?_⟩
        rintro e W4 (⟨rfl, hJ3, hS3⟩ | ⟨rfl, hJx3, hSx⟩)
        · gi_wp2
          go_roundw
          case rel => exact ⟨k + 1, by go_num, by omega, hJ3, Lib.hid (by rw [HSU.out, if_neg he]; exact HH3.out.stay hS3 rfl)⟩
          case measure => go_light; simp [intOf] <;> omega
        · gi_wp2
          refine bodyPost_ret (results_none rfl _ _ _) rfl ?_
          exact ⟨⟨_, rfl⟩, .inr ⟨hJx3, _, HH3.out.stay hSx rfl⟩⟩
    · have hkk : qs.length = k := by omega
      have hj2 : J qs.length wr := by rw [hkk]; exact hj
      have hh2 := HH.out
      rw [← hkk] at hh2
      clear hkk
      gi_wp2
      go_end0
      exact ⟨⟨_, rfl⟩, .inl ⟨hj2, hh2⟩⟩
end Go.Proofs.Ytenhglamnpmkaaa
