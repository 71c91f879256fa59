/-
  The distribution of counts with an accuracy, walked.
-/
import Derived.Test.YtgponpjlkebjcaaRows
import Derived.Test.YtgponpjlkebjcaaNormIter
import Derived.Test.YtgponpjlkebjcaaNorm6
import Derived.Test.YtgponpjlkebjcaaCommon
import Derived.Deep.Light
import Derived.Shelf.Abstract
import Derived.Shelf.RegionOpen
import Derived.OwnWalkIn
import Derived.TacticsInMore
import Derived.LoopNIn
import Derived.LoopIn
import Derived.Outline
import Derived.Stop.RegionWithIn
import Derived.StillTailTactics
import Derived.IntWalk
import Derived.Deep.RegionWith
import Derived.Deep.RegionHeld3
import Derived.Deep.AppendLies
import Derived.Deep.DeepCutAuto
namespace Go.Proofs.Ytgponpjlkebjcaa
open Go.RowKit
set_option linter.unusedSimpArgs false
set_option linter.unusedVariables false
open Go.Shelf
attribute [local go_sem] Oper.semAt_some

theorem prz_bd {xs : List Int} {l : Nat} (hr : rng xs = true) (ht : 0 < xs.sum) (hl : l ≤ 12) (i : Nat) (hi : i < many xs) : -1 ≤ (base xs xs.sum l).getD i 0 ∧ (base xs xs.sum l).getD i 0 ≤ 4096 := by
  have hm := many_le xs
  have e : (base xs xs.sum l).getD i 0 = prz xs.sum l (xs.getD i 0) := by
    unfold base
    simp [List.getD_eq_getElem?_getD, List.getElem?_take, hi, show i < xs.length by omega]
  rw [e]
  unfold prz
  split
  · obtain ⟨h1, h2, _⟩ := prb_bd (l := l) (rng_get hr i) (sum_ge xs i hr (by omega)) ht hl
    exact ⟨h1, h2⟩
  · omega
theorem decs_bd {L U : Int} {ps : List Int} (h : ∀ i, i < ps.length → L ≤ ps.getD i 0 ∧ ps.getD i 0 ≤ U) : ∀ j i, i < ps.length → L - j ≤ (decs j ps).getD i 0 ∧ (decs j ps).getD i 0 ≤ U := by
  intro j
  induction j with
  | zero =>
    intro i hi
    have := h i hi
    show L - ((0 : Nat) : Int) ≤ ps.getD i 0 ∧ ps.getD i 0 ≤ U
    omega
  | succ j ih =>
    intro i hi
    rw [decs_succ]
    unfold dec
    have h1 := ih i hi
    by_cases ha : amx (decs j ps) = i
    · rw [ha]
      rw [List.getD_eq_getElem?_getD, List.getElem?_set, if_pos rfl, if_pos (by rw [decs_len]; exact hi)]
      simp only [Option.getD_some]
      push_cast
      omega
    · rw [List.getD_eq_getElem?_getD, List.getElem?_set, if_neg ha, ← List.getD_eq_getElem?_getD]
      push_cast
      omega
/-- What lies in memory behind the dealing out. -/
def WithSt (w : World) (B0 B1 B2 D : Nat) (a : Option Addr) (n cap l t M : Nat) (lft : Int) (ps : List Int) (W : World) : Prop :=
  Arr W B2 3 ps ∧ W.cell? ⟨B2 + 1, 0, none⟩ = some (.slice (some ⟨B2, 0, none⟩) M M) ∧ W.cell? ⟨B2 + 2, 0, none⟩ = some (.int .i64 lft) ∧ W.frozen? ⟨B2 + 2, 0, none⟩ = false ∧
  W.cell? ⟨B0, 0, none⟩ = some (.int .i64 (l : Int)) ∧ W.cell? ⟨B0 + 1, 0, none⟩ = some (.int .i64 0) ∧ W.cell? ⟨B0 + 1, 1, none⟩ = some (.slice none 0 0) ∧ W.frozen? ⟨B0 + 1, 0, none⟩ = false ∧ W.frozen? ⟨B0 + 1, 1, none⟩ = false ∧ Below B0 w W ∧ B2 + 4 ≤ W.heap.size ∧ W.heap[D]? = some (.deferred (some []))
theorem WithSt.prob {w W : World} {B0 B1 B2 D n cap l t M : Nat} {a : Option Addr} {lft : Int} {ps : List Int} (h : WithSt w B0 B1 B2 D a n cap l t M lft ps W) (h2 : B0 + 2 ≤ B2) (i : Nat) (v : Int) : WithSt w B0 B1 B2 D a n cap l t M lft (ps.set i v) (W.setCell ⟨B2, i, none⟩ (.int .i64 v)) := by
  obtain ⟨h0, h1, h2, h3, h4, h5, h6, h7, h8, h9, h10, h11⟩ := h
  refine ⟨Arr.set h0 i v, by simp [go_sem, *], by simp [go_sem, *], by simp [go_sem, *], ?_, ?_, ?_, by simp [go_sem, *], by simp [go_sem, *], h9.setCell (by simp; omega) _, by simp; omega, setCell_deferred h11 _ _⟩
  · simp [go_sem, *, show B2 ≠ B0 by omega]
  · simp [go_sem, *, show B2 ≠ B0 + 1 by omega]
  · simp [go_sem, *, show B2 ≠ B0 + 1 by omega]
theorem WithSt.left {w W : World} {B0 B1 B2 D n cap l t M : Nat} {a : Option Addr} {lft : Int} {ps : List Int} (h : WithSt w B0 B1 B2 D a n cap l t M lft ps W) (h2 : B0 + 2 ≤ B2) (v : Int) : WithSt w B0 B1 B2 D a n cap l t M v ps (W.setCell ⟨B2 + 2, 0, none⟩ (.int .i64 v)) := by
  obtain ⟨h0, h1, h2, h3, h4, h5, h6, h7, h8, h9, h10, h11⟩ := h
  refine ⟨Blk.other h0 (by simp) _, by simp [go_sem, *], by simp [go_sem, *], by simp [go_sem, *], ?_, ?_, ?_, by simp [go_sem, *], by simp [go_sem, *], h9.setCell (by simp; omega) _, by simp; omega, setCell_deferred h11 _ _⟩
  · simp [go_sem, *, show B2 + 2 ≠ B0 by omega]
  · simp [go_sem, *, show B2 + 2 ≠ B0 + 1 by omega]
  · simp [go_sem, *, show B2 + 2 ≠ B0 + 1 by omega]
theorem WithSt.drew {w W : World} {B0 B1 B2 D n cap l t M : Nat} {a : Option Addr} {lft : Int} {ps : List Int} (h : WithSt w B0 B1 B2 D a n cap l t M lft ps W) : WithSt w B0 B1 B2 D a n cap l t M lft ps W.drew := by
  obtain ⟨h0, h1, h2, h3, h4, h5, h6, h7, h8, h9, h10, h11⟩ := h
  exact ⟨h0, h1, h2, h3, h4, h5, h6, h7, h8, h9.drew, h10, h11⟩
theorem WithSt.drewN {w W : World} {B0 B1 B2 D n cap l t M : Nat} {a : Option Addr} {lft : Int} {ps : List Int} (h : WithSt w B0 B1 B2 D a n cap l t M lft ps W) (q : Nat) : WithSt w B0 B1 B2 D a n cap l t M lft ps (W.drewN q) := by
  obtain ⟨h0, h1, h2, h3, h4, h5, h6, h7, h8, h9, h10, h11⟩ := h
  exact ⟨h0, h1, h2, h3, h4, h5, h6, h7, h8, below_drewN h9 q, h10, h11⟩
theorem WithSt.later {w W W' : World} {B0 B1 B2 D n cap l t M : Nat} {a : Option Addr} {lft : Int} {ps : List Int} (h : WithSt w B0 B1 B2 D a n cap l t M lft ps W) (h2 : B0 + 2 ≤ B2) (hb : Below W.heap.size W W') : WithSt w B0 B1 B2 D a n cap l t M lft ps W' := by
  obtain ⟨h0, h1, h2, h3, h4, h5, h6, h7, h8, h9, h10, h11⟩ := h
  have c := fun b o (h : b < W.heap.size) => hb.cell (p := ⟨b, o, none⟩) h
  have f := fun b o (h : b < W.heap.size) => hb.frozen (p := ⟨b, o, none⟩) h
  exact ⟨Blk.later h0 hb, (c _ _ (by omega)).trans h1, (c _ _ (by omega)).trans h2, (f _ _ (by omega)).trans h3, (c _ _ (by omega)).trans h4, (c _ _ (by omega)).trans h5, (c _ _ (by omega)).trans h6, (f _ _ (by omega)).trans h7, (f _ _ (by omega)).trans h8, h9.trans (hb.mono (by omega)), Nat.le_trans h10 hb.size, (hb.block _ (Array.getElem?_eq_some_iff.1 h11).1).trans h11⟩
def mleft (w : World) (b : Nat) : Nat := match w.cell? ⟨b, 0, none⟩ with
  | some (.int _ n) => (-n).toNat
  | _ => 0
theorem mleft_eq {w : World} {b : Nat} {k : IntKind} {n : Int} (h : w.cell? ⟨b, 0, none⟩ = some (.int k n)) : mleft w b = (-n).toNat := by unfold mleft; rw [h]
theorem drewN_deferred {w : World} {D : Nat} {x : Option (List Deferred)} (n : Nat) (h : w.heap[D]? = some (.deferred x)) : (w.drewN n).heap[D]? = some (.deferred x) := h
set_option maxRecDepth 100000 in
set_option maxHeartbeats 4000000 in
theorem with_1 (a : Option Addr) (xs : List Int) (cap : Nat) (l t d M : Nat) (w : World) (ha : Row .i64 w a xs) (hl : xs.length ≤ 256) (hl5 : 5 ≤ l) (hl12 : l ≤ 12) (P : Int) (hP : (2 : Int) ^ l = P) (hdP : (d : Int) ≤ P)
    (HR : Hid (rng xs = true)) (HT : Hid ((t : Int) = xs.sum)) (ht0 : 0 < t) (ht1 : t ≤ 1099511627776) (HM : Hid (many xs = M)) (hM0 : 0 < M) (hM : M ≤ 256)
    (q1 : ∀ w, Row .i64 w a xs → Calls Try.prog 59 #[.slice a xs.length cap] w fun e w' => e = .returned (.tuple #[.int .i64 (t : Int), .int .i64 (d : Int), .int .i64 0]) ∧ Below w.heap.size w w')
    (q2 : ∀ w, Row .i64 w a xs → Calls Try.prog 29 #[.slice a xs.length cap] w fun e w' => e = .returned (.tuple #[.int .i64 ((M : Int) - 1), .int .i64 0]) ∧ Below w.heap.size w w') :
    Calls Try.prog 48 #[.slice a xs.length cap, .int .i64 (l : Int)] w (DistPost (((l : Int), dist0 xs l), 0) w) := by
  have hp := pow12 l hl12
  rw [hP] at hp
  obtain ⟨p1, p2⟩ := hp
  have hmk : ∀ W, (Instr.makeSlice 22 (.int .i64 (M : Int)) (.int .i64 (M : Int))).run Try.prog W = _ := fun W => mk_ints M (by omega) W
  have g1 : ¬ (l : Int) < 5 := by omega
  have g2 : ¬ (12 : Int) < (l : Int) := by omega
  have g3 : ¬ P < (d : Int) := by omega
  refine calls_of_marks Try.func48 rfl ?_
  simp only [Try.ntmps48, List.size_toArray, List.length_cons, List.length_nil, Nat.reduceAdd, Nat.reduceSub, Array.replicate_succ, Array.replicate_zero, List.push_toArray, List.append_toArray, List.nil_append, List.cons_append]
  go_wp2
  go_step3
  go_wp2_with (first | (go_at_call 59; refine (q1 _ (ha.later (by repeat' (first | exact Below.refl _ _ | refine Below.drew ?_ | refine below_drewN ?_ _ | refine Below.alloc ?_ (by first | omega | (simp <;> omega)) _ | refine Below.setCell ?_ (by first | omega | (simp <;> omega)) _ | refine Below.trans ?_ (Below.mono (by assumption) (by first | omega | (simp <;> omega))))))).mono ?_; rintro e w1 ⟨rfl, hb1⟩; have hs1 := hb1.size; (try simp at hs1); have y3 : w1.cell? ⟨w.heap.size, 0, none⟩ = some (.int .i64 (l : Int)) := (hb1.cell (p := ⟨w.heap.size, 0, none⟩) (by simp <;> omega)).trans (by simp [go_sem]); have y4 : w1.cell? ⟨w.heap.size + 1, 0, none⟩ = some (.int .i64 0) := (hb1.cell (p := ⟨w.heap.size + 1, 0, none⟩) (by simp <;> omega)).trans (by simp [go_sem]); have y5 : w1.cell? ⟨w.heap.size + 1, 1, none⟩ = some (.slice none 0 0) := (hb1.cell (p := ⟨w.heap.size + 1, 1, none⟩) (by simp <;> omega)).trans (by simp [go_sem]); have f4 : w1.frozen? ⟨w.heap.size + 1, 0, none⟩ = false := (hb1.frozen (p := ⟨w.heap.size + 1, 0, none⟩) (by simp <;> omega)).trans (by simp [go_sem]); have f5 : w1.frozen? ⟨w.heap.size + 1, 1, none⟩ = false := (hb1.frozen (p := ⟨w.heap.size + 1, 1, none⟩) (by simp <;> omega)).trans (by simp [go_sem]); have l3 : w.heap.size < w1.heap.size := (by omega); have l4 : w.heap.size + 1 < w1.heap.size := (by omega); have n3 : ¬ w.heap.size = w1.heap.size := (by omega); have n4 : ¬ w.heap.size + 1 = w1.heap.size := (by omega); have n5 : ¬ w1.heap.size = w.heap.size := (by omega); have n6 : ¬ w1.heap.size = w.heap.size + 1 := (by omega)) | (go_at_call 29; refine (q2 _ (ha.later (by repeat' (first | exact Below.refl _ _ | refine Below.drew ?_ | refine below_drewN ?_ _ | refine Below.alloc ?_ (by first | omega | (simp <;> omega)) _ | refine Below.setCell ?_ (by first | omega | (simp <;> omega)) _ | refine Below.trans ?_ (Below.mono (by assumption) (by first | omega | (simp <;> omega))))))).mono ?_; rintro e w2 ⟨rfl, hb2⟩; have hs2 := hb2.size; (try simp at hs2); have z3 : w2.cell? ⟨w.heap.size, 0, none⟩ = some (.int .i64 (l : Int)) := (hb2.cell (p := ⟨w.heap.size, 0, none⟩) (by simp <;> omega)).trans (by simp [go_sem, *]); have z4 : w2.cell? ⟨w.heap.size + 1, 0, none⟩ = some (.int .i64 0) := (hb2.cell (p := ⟨w.heap.size + 1, 0, none⟩) (by simp <;> omega)).trans (by simp [go_sem, *]); have z5 : w2.cell? ⟨w.heap.size + 1, 1, none⟩ = some (.slice none 0 0) := (hb2.cell (p := ⟨w.heap.size + 1, 1, none⟩) (by simp <;> omega)).trans (by simp [go_sem, *]); have z6 : w2.frozen? ⟨w.heap.size + 1, 0, none⟩ = false := (hb2.frozen (p := ⟨w.heap.size + 1, 0, none⟩) (by simp <;> omega)).trans (by simp [go_sem, *]); have z7 : w2.frozen? ⟨w.heap.size + 1, 1, none⟩ = false := (hb2.frozen (p := ⟨w.heap.size + 1, 1, none⟩) (by simp <;> omega)).trans (by simp [go_sem, *]); have z8 : w2.cell? ⟨w1.heap.size, 0, none⟩ = some (.int .i64 (t : Int)) := (hb2.cell (p := ⟨w1.heap.size, 0, none⟩) (by simp <;> omega)).trans (by simp [go_sem, *]); have m3 : ¬ w.heap.size = w2.heap.size := (by omega); have m4 : ¬ w.heap.size + 1 = w2.heap.size := (by omega); have m5 : ¬ w1.heap.size = w2.heap.size := (by omega); have m6 : w.heap.size < w2.heap.size := (by omega); have m7 : w.heap.size + 1 < w2.heap.size := (by omega); have m8 : w1.heap.size < w2.heap.size := (by omega)) | go_in)
  repeat' (first | (go_region <;> go_wp2_with (first | (go_at_call 59; refine (q1 _ (ha.later (by repeat' (first | exact Below.refl _ _ | refine Below.drew ?_ | refine below_drewN ?_ _ | refine Below.alloc ?_ (by first | omega | (simp <;> omega)) _ | refine Below.setCell ?_ (by first | omega | (simp <;> omega)) _ | refine Below.trans ?_ (Below.mono (by assumption) (by first | omega | (simp <;> omega))))))).mono ?_; rintro e w1 ⟨rfl, hb1⟩; have hs1 := hb1.size; (try simp at hs1); have y3 : w1.cell? ⟨w.heap.size, 0, none⟩ = some (.int .i64 (l : Int)) := (hb1.cell (p := ⟨w.heap.size, 0, none⟩) (by simp <;> omega)).trans (by simp [go_sem]); have y4 : w1.cell? ⟨w.heap.size + 1, 0, none⟩ = some (.int .i64 0) := (hb1.cell (p := ⟨w.heap.size + 1, 0, none⟩) (by simp <;> omega)).trans (by simp [go_sem]); have y5 : w1.cell? ⟨w.heap.size + 1, 1, none⟩ = some (.slice none 0 0) := (hb1.cell (p := ⟨w.heap.size + 1, 1, none⟩) (by simp <;> omega)).trans (by simp [go_sem]); have f4 : w1.frozen? ⟨w.heap.size + 1, 0, none⟩ = false := (hb1.frozen (p := ⟨w.heap.size + 1, 0, none⟩) (by simp <;> omega)).trans (by simp [go_sem]); have f5 : w1.frozen? ⟨w.heap.size + 1, 1, none⟩ = false := (hb1.frozen (p := ⟨w.heap.size + 1, 1, none⟩) (by simp <;> omega)).trans (by simp [go_sem]); have l3 : w.heap.size < w1.heap.size := (by omega); have l4 : w.heap.size + 1 < w1.heap.size := (by omega); have n3 : ¬ w.heap.size = w1.heap.size := (by omega); have n4 : ¬ w.heap.size + 1 = w1.heap.size := (by omega); have n5 : ¬ w1.heap.size = w.heap.size := (by omega); have n6 : ¬ w1.heap.size = w.heap.size + 1 := (by omega)) | (go_at_call 29; refine (q2 _ (ha.later (by repeat' (first | exact Below.refl _ _ | refine Below.drew ?_ | refine below_drewN ?_ _ | refine Below.alloc ?_ (by first | omega | (simp <;> omega)) _ | refine Below.setCell ?_ (by first | omega | (simp <;> omega)) _ | refine Below.trans ?_ (Below.mono (by assumption) (by first | omega | (simp <;> omega))))))).mono ?_; rintro e w2 ⟨rfl, hb2⟩; have hs2 := hb2.size; (try simp at hs2); have z3 : w2.cell? ⟨w.heap.size, 0, none⟩ = some (.int .i64 (l : Int)) := (hb2.cell (p := ⟨w.heap.size, 0, none⟩) (by simp <;> omega)).trans (by simp [go_sem, *]); have z4 : w2.cell? ⟨w.heap.size + 1, 0, none⟩ = some (.int .i64 0) := (hb2.cell (p := ⟨w.heap.size + 1, 0, none⟩) (by simp <;> omega)).trans (by simp [go_sem, *]); have z5 : w2.cell? ⟨w.heap.size + 1, 1, none⟩ = some (.slice none 0 0) := (hb2.cell (p := ⟨w.heap.size + 1, 1, none⟩) (by simp <;> omega)).trans (by simp [go_sem, *]); have z6 : w2.frozen? ⟨w.heap.size + 1, 0, none⟩ = false := (hb2.frozen (p := ⟨w.heap.size + 1, 0, none⟩) (by simp <;> omega)).trans (by simp [go_sem, *]); have z7 : w2.frozen? ⟨w.heap.size + 1, 1, none⟩ = false := (hb2.frozen (p := ⟨w.heap.size + 1, 1, none⟩) (by simp <;> omega)).trans (by simp [go_sem, *]); have z8 : w2.cell? ⟨w1.heap.size, 0, none⟩ = some (.int .i64 (t : Int)) := (hb2.cell (p := ⟨w1.heap.size, 0, none⟩) (by simp <;> omega)).trans (by simp [go_sem, *]); have m3 : ¬ w.heap.size = w2.heap.size := (by omega); have m4 : ¬ w.heap.size + 1 = w2.heap.size := (by omega); have m5 : ¬ w1.heap.size = w2.heap.size := (by omega); have m6 : w.heap.size < w2.heap.size := (by omega); have m7 : w.heap.size + 1 < w2.heap.size := (by omega); have m8 : w1.heap.size < w2.heap.size := (by omega)) | go_in)))
  obtain ⟨W0, hW0⟩ : ∃ W0, ((((w2.alloc (.cells (madeCells #[.int .i64 0] M) 3)).alloc (.cells #[.slice (some ⟨w2.heap.size, 0, none⟩) M M] 22)).alloc (.cells #[.int .i64 P] 3)).alloc (.cells #[.slice a xs.length cap] 22)) = W0 := ⟨_, rfl⟩
  have B0 : Below w.heap.size w W0 := by
    rw [← hW0]
    have hb12 : Below w.heap.size w w1 := ((Below.refl _ w).alloc (Nat.le_refl _) _).alloc (by simp) _ |>.trans (hb1.mono (by simp; omega))
    have hb13 : Below w.heap.size w w2 := (hb12.alloc (by omega) _).trans (hb2.mono (by simp; omega))
    exact (((hb13.alloc (by omega) _).alloc (by simp; omega) _).alloc (by simp; omega) _).alloc (by simp; omega) _
  have B2 : Below w2.heap.size w2 W0 := by
    rw [← hW0]
    exact ((((Below.refl _ w2).alloc (Nat.le_refl _) _).alloc (by simp) _).alloc (by simp; omega) _).alloc (by simp; omega) _
  have y0 : Arr W0 w2.heap.size 3 (pAt xs t l 0) := by
    rw [← hW0, pAt_zero, HM.out]
    exact Blk.alloc (Blk.alloc (Blk.alloc (Arr.made w2 M) _) _) _
  have x1 : W0.cell? ⟨w2.heap.size + 1, 0, none⟩ = some (.slice (some ⟨w2.heap.size, 0, none⟩) M M) := by rw [← hW0]; simp [go_sem]
  have x2 : W0.cell? ⟨w2.heap.size + 2, 0, none⟩ = some (.int .i64 (P - sAt xs t l 0)) := by rw [← hW0, sAt_zero]; simp [go_sem]
  have x2f : W0.frozen? ⟨w2.heap.size + 2, 0, none⟩ = false := by rw [← hW0]; simp [go_sem]
  have x3 : W0.cell? ⟨w2.heap.size + 3, 0, none⟩ = some (.slice a xs.length cap) := by rw [← hW0]; simp [go_sem]
  have x4 : W0.cell? ⟨w.heap.size, 0, none⟩ = some (.int .i64 (l : Int)) := (B2.cell (p := ⟨w.heap.size, 0, none⟩) (by simp; omega)).trans z3
  have x5 : W0.cell? ⟨w.heap.size + 1, 0, none⟩ = some (.int .i64 0) := (B2.cell (p := ⟨w.heap.size + 1, 0, none⟩) (by simp; omega)).trans z4
  have x6 : W0.cell? ⟨w.heap.size + 1, 1, none⟩ = some (.slice none 0 0) := (B2.cell (p := ⟨w.heap.size + 1, 1, none⟩) (by simp; omega)).trans z5
  have x7 : W0.frozen? ⟨w.heap.size + 1, 0, none⟩ = false := (B2.frozen (p := ⟨w.heap.size + 1, 0, none⟩) (by simp; omega)).trans z6
  have x8 : W0.frozen? ⟨w.heap.size + 1, 1, none⟩ = false := (B2.frozen (p := ⟨w.heap.size + 1, 1, none⟩) (by simp; omega)).trans z7
  have x9 : W0.cell? ⟨w1.heap.size, 0, none⟩ = some (.int .i64 (t : Int)) := (B2.cell (p := ⟨w1.heap.size, 0, none⟩) (by simp; omega)).trans z8
  have S0 : w2.heap.size + 4 ≤ W0.heap.size := by rw [← hW0]; simp
  have hw1 : w.heap.size + 2 ≤ w1.heap.size := by omega
  have hw2 : w1.heap.size + 1 ≤ w2.heap.size := by omega
  rw [hW0]
  clear hW0 B2 z3 z4 z5 z6 z7 z8 y3 y4 y5 f4 f5 l3 l4 n3 n4 n5 n6 m3 m4 m5 m6 m7 m8 hs1 hs2 hb1 hb2 hmk
  refine wp_range_pure (gf := 73) (lb := #[.pointer (some ⟨w2.heap.size + 3, 0, none⟩)]) rfl (enters_of Try.func73 (by kernel_rfl) rfl) (occ 0 xs).length (occArgs xs) (fun _ => rfl)
    (fun i W => Arr W w2.heap.size 3 (pAt xs t l i) ∧ W.cell? ⟨w2.heap.size + 1, 0, none⟩ = some (.slice (some ⟨w2.heap.size, 0, none⟩) M M) ∧ W.cell? ⟨w2.heap.size + 2, 0, none⟩ = some (.int .i64 (P - sAt xs t l i)) ∧ W.frozen? ⟨w2.heap.size + 2, 0, none⟩ = false ∧ W.cell? ⟨w2.heap.size + 3, 0, none⟩ = some (.slice a xs.length cap) ∧
      W.cell? ⟨w.heap.size, 0, none⟩ = some (.int .i64 (l : Int)) ∧ W.cell? ⟨w.heap.size + 1, 0, none⟩ = some (.int .i64 0) ∧ W.cell? ⟨w.heap.size + 1, 1, none⟩ = some (.slice none 0 0) ∧ W.frozen? ⟨w.heap.size + 1, 0, none⟩ = false ∧ W.frozen? ⟨w.heap.size + 1, 1, none⟩ = false ∧ W.cell? ⟨w1.heap.size, 0, none⟩ = some (.int .i64 (t : Int)) ∧ Below w.heap.size w W ∧ w2.heap.size + 4 ≤ W.heap.size)
    (fun _ _ => False) ?hI (fun _ _ _ _ h => h) ⟨y0, x1, x2, x2f, x3, x4, x5, x6, x7, x8, x9, B0, S0⟩ ?hround ?hiter ?hdone (fun _ _ _ _ h => h.elim)
  case hI =>
    rintro i X Y hk ⟨h0, h1, h2, h3, h4, h5, h6, h7, h8, h9, h10, h11, h12⟩
    exact ⟨Blk.keep h0 hk, hk.cell h1, hk.cell h2, (hk.frozen h2).trans h3, hk.cell h4, hk.cell h5, hk.cell h6, hk.cell h7, (hk.frozen h6).trans h8, (hk.frozen h7).trans h9, hk.cell h10, hk.below h11 (by omega) (by omega), Nat.le_trans h12 hk.size⟩
  case hround =>
    rintro l1 i W hi hI hl1
    clear hI
    obtain ⟨o1, o2, o3⟩ := occ_sum_le HR.out hi
    rw [← HT.out] at o2
    rw [HM.out] at o3
    have hps := pAt_succ xs t l i hi
    have hss := sAt_succ xs t l i hi
    have hbd := sAt_bd HR.out (by rw [← HT.out]; omega) hl12 i (by omega)
    rw [← HT.out] at hbd
    obtain ⟨bd1, bd2⟩ := hbd
    have hol : i ≤ 256 := by
      have : (occ 0 xs).length ≤ xs.length := by rw [occ_len]; exact List.length_filter_le _ _
      omega
    unfold occArgs
    obtain ⟨q, hq⟩ : ∃ q, (occ 0 xs).getD i (0, 0) = q := ⟨_, rfl⟩
    rw [hq] at o1 o2 o3 hps hss
    simp only [hq]
    clear hq
    obtain ⟨s, n⟩ := q
    dsimp only at o1 o2 o3 hps hss
    unfold pst at hps
    dsimp only at hps
    obtain ⟨A, hA⟩ : ∃ A, pAt xs t l i = A := ⟨_, rfl⟩
    obtain ⟨Sm, hSm⟩ : ∃ A, sAt xs t l i = A := ⟨_, rfl⟩
    rw [hA] at hps
    rw [hSm] at hss bd1 bd2
    have hAl : A.length = M := by rw [← hA, pAt_len]; exact HM.out
    have pb := prb_bd (l := l) (by omega) o2 (by omega) hl12
    have hS : shr n t l = n * P / t := by unfold shr; rw [hP]
    have sb := shr_bd (l := l) (by omega) o2 (by omega) hl12
    have hprb : prb t l n = if n * P / t = 0 then -1 else n * P / t := by unfold prb; rw [hS]
    rw [hS] at sb
    obtain ⟨sb1, sb2⟩ := sb
    have np1 : 0 ≤ n * P := Int.mul_nonneg (by omega) (by omega)
    have np2 : n * P ≤ 4503599627370496 := Int.le_trans (Int.mul_le_mul (c := 1099511627776) (d := 4096) (by omega) p2 (by omega) (by omega)) (by omega)
    have HPS := Lib.hid hps
    have HSS := Lib.hid hss
    have HA := Lib.hid hA
    have HSM := Lib.hid hSm
    clear hps hss hS hA hSm
    have ht1 : (1 : Int) ≤ (t : Int) := by omega
    gi_wp2
    refine ⟨by first | rfl | trivial, ?_⟩
    rintro W2 hl2 ⟨h0, h1, h2, h3, h4, h5, h6, h7, h8, h9, h10, h11, h12⟩
    rw [HA.out] at h0
    rw [HSM.out] at h2
    have g5 := h0.get (i := s) (by omega)
    have g6 := Blk.frozen h0 s
    have HB0 := Lib.hid h0
    have e1 : (0 : Int) ≤ (s : Int) := by omega
    have e2 : (s : Int) < (M : Int) := by omega
    clear h0
    by_cases hz : n * P / t = 0
    · have e3 : (n * P / (t : Int) == 0) = true := by rw [hz]; rfl
      rw [if_pos hz] at hprb
      have HPR := Lib.hid hprb
      have HZ := Lib.hid hz
      clear hz hprb
      have HPX : Hid (pAt xs t l (i + 1) = A.set s (-1)) := Lib.hid (by rw [HPS.out, HPR.out])
      have HSX : Hid (sAt xs t l (i + 1) = Sm + 1) := Lib.hid (by rw [HSS.out, HPR.out]; rfl)
      have wr1 : IntKind.i64.wrap (P - Sm - 1) = P - Sm - 1 := IntWalk.i64_in _ (by omega)
      have qw : ∀ w, Calls Try.prog 66 #[.int .i64 (-1)] w fun e w' => e = .returned (.int .i64 1) ∧ w' = w := fun w => weigh_s (-1) w
      gi_wp2
      gi_region_with (refine ⟨trivial, rfl, (CallsIn.inRound l1 (callsIn_wide.2 (qw _))).mono ?_⟩; rintro e w5 ⟨rfl, rfl⟩)
      all_goals clear wr1
      all_goals gi_wp2
      all_goals
        have hb0 := HB0.out
        have A1 := Arr.set hb0 s (-1)
        have A2 := Blk.other A1 (a := ⟨w2.heap.size + 2, 0, none⟩) (by simp) (.int .i64 (P - Sm - 1))
        rw [← HPX.out] at A2
        rw [HSX.out]
        refine ⟨?_, A2, by simp [go_sem, *], by simp [go_sem, *] <;> omega, by simp [go_sem, *], by simp [go_sem, *], by simp [go_sem, *], by simp [go_sem, *], by simp [go_sem, *], by simp [go_sem, *], by simp [go_sem, *], by simp [go_sem, *], ?_, by simp; omega⟩
        · exact (((KeepsOthers.setCell _ _ _).from _).trans ((KeepsOthers.setCell _ _ _).from _)).trans (keepsFrom_of_below (Below.drew (Below.refl _ _)))
        · exact ((h11.setCell (by simp; omega) _).setCell (by simp; omega) _).drew
    · obtain ⟨p, hpp⟩ : ∃ p, n * P / (t : Int) = p := ⟨_, rfl⟩
      rw [hpp] at hz hprb sb1 sb2
      have e3 : (p == 0) = false := by simpa using hz
      have hwp : wgh p = p := by unfold wgh; rw [if_neg (by omega)]
      rw [if_neg hz] at hprb
      have HPR := Lib.hid hprb
      clear hz hprb
      have HPX : Hid (pAt xs t l (i + 1) = A.set s p) := Lib.hid (by rw [HPS.out, HPR.out])
      have HSX : Hid (sAt xs t l (i + 1) = Sm + p) := Lib.hid (by rw [HSS.out, HPR.out, hwp])
      have wr1 : IntKind.i64.wrap (P - Sm - p) = P - Sm - p := IntWalk.i64_in _ (by omega)
      have qw : ∀ w, Calls Try.prog 66 #[.int .i64 p] w fun e w' => e = .returned (.int .i64 p) ∧ w' = w := fun w => by have := weigh_s p w; rw [hwp] at this; exact this
      clear hwp
      gi_wp2
      gi_region_with (refine ⟨trivial, rfl, (CallsIn.inRound l1 (callsIn_wide.2 (qw _))).mono ?_⟩; rintro e w5 ⟨rfl, rfl⟩)
      all_goals clear wr1
      all_goals gi_wp2
      all_goals
        have hb0 := HB0.out
        have A1 := Arr.set hb0 s p
        have A2 := Blk.other A1 (a := ⟨w2.heap.size + 2, 0, none⟩) (by simp) (.int .i64 (P - Sm - p))
        rw [← HPX.out] at A2
        rw [HSX.out]
        refine ⟨?_, A2, by simp [go_sem, *], by simp [go_sem, *] <;> omega, by simp [go_sem, *], by simp [go_sem, *], by simp [go_sem, *], by simp [go_sem, *], by simp [go_sem, *], by simp [go_sem, *], by simp [go_sem, *], by simp [go_sem, *], ?_, by simp; omega⟩
        · exact (((KeepsOthers.setCell _ _ _).from _).trans ((KeepsOthers.setCell _ _ _).from _)).trans (keepsFrom_of_below (Below.drew (Below.refl _ _)))
        · exact ((h11.setCell (by simp; omega) _).setCell (by simp; omega) _).drew
  case hiter =>
    intro l1 J Jx W hbW hst hJI _ hr hj
    refine pairs_iter xs a cap (w2.heap.size + 3) l1 (by omega) J Jx W hst (fun i X h => ?_) hr hj
    obtain ⟨h0, h1, h2, h3, h4, h5, h6, h7, h8, h9, h10, h11, h12⟩ := hJI i X h
    exact ⟨h4, ha.later h11⟩
  case hdone =>
    rintro D W hD ⟨h0, h1, h2, h3, h4, h5, h6, h7, h8, h9, h10, h11, h12⟩ hdf
    rw [pAt_all] at h0
    rw [sAt_all] at h2
    have sbd := sAt_bd HR.out (by rw [← HT.out]; omega) hl12 (occ 0 xs).length (Nat.le_refl _)
    rw [sAt_all] at sbd
    have hol : (occ 0 xs).length ≤ 256 := by
      have : (occ 0 xs).length ≤ xs.length := by rw [occ_len]; exact List.length_filter_le _ _
      omega
    have bbd := fun i hi => prz_bd HR.out (by rw [← HT.out]; omega) hl12 i hi
    have hdist : dist0 xs l = if 0 < P - wsum (base xs xs.sum l) then give xs (base xs xs.sum l) (P - wsum (base xs xs.sum l)) else decs (wsum (base xs xs.sum l) - P).toNat (base xs xs.sum l) := by unfold dist0; rw [hP]
    obtain ⟨am1, am2⟩ := amx_many HR.out (by rw [← HT.out]; omega)
    have hbl := base_len xs xs.sum l
    rw [← HT.out] at sbd bbd hdist hbl
    rw [HM.out] at am1 hbl bbd
    obtain ⟨b, hb⟩ : ∃ b, base xs t l = b := ⟨_, rfl⟩
    rw [hb] at h0 h2 sbd bbd hdist hbl
    obtain ⟨S, hS⟩ : ∃ S, wsum b = S := ⟨_, rfl⟩
    rw [hS] at h2 sbd hdist
    obtain ⟨sb1, sb2⟩ := sbd
    have BBD : Hid (∀ i, i < M → -1 ≤ b.getD i 0 ∧ b.getD i 0 ≤ 4096) := bbd
    clear hb hS bbd
    by_cases hlf : 0 < P - S
    · rw [if_pos hlf] at hdist
      unfold give at hdist
      have qG := fun w h => greatest_q a xs cap w h (by omega)
      have hrW := ha.later h11
      obtain ⟨bk1, bk2⟩ := BBD.out _ am1
      obtain ⟨k, hk⟩ : ∃ k, amx xs = k := ⟨_, rfl⟩
      rw [hk] at qG am1 hdist bk1 bk2
      have g5 := h0.get (i := k) (by omega)
      have g6 := Blk.frozen h0 k
      obtain ⟨y, hy⟩ : ∃ y, b.getD k 0 = y := ⟨_, rfl⟩
      rw [hy] at g5 hdist bk1 bk2
      have HYB : Hid (y = b.getD k 0) := Lib.hid hy.symm
      have hwy : 0 ≤ wgh y ∧ wgh y ≤ 4096 := by unfold wgh; split <;> omega
      obtain ⟨z, hz⟩ : ∃ z, wgh y = z := ⟨_, rfl⟩
      rw [hz] at hdist hwy
      obtain ⟨wz1, wz2⟩ := hwy
      have qw : ∀ w, Calls Try.prog 66 #[.int .i64 y] w fun e w' => e = .returned (.int .i64 z) ∧ w' = w := fun w => by have := weigh_s y w; rw [hz] at this; exact this
      have HD := Lib.hid hdist
      have HB0 := Lib.hid h0
      have wr1 : IntKind.i64.wrap (z + (P - S)) = z + (P - S) := IntWalk.i64_in _ (by omega)
      have e1 : (0 : Int) ≤ (k : Int) := by omega
      have e2 : (k : Int) < (M : Int) := by omega
      clear hdist h0 hy hz hk am2
      go_wp2_with (go_at_call 67; refine (qG _ hrW).mono ?_; rintro e w5 ⟨rfl, n5, rfl⟩)
      obtain ⟨W9, hW9⟩ : ∃ W9, (W.drewN n5).drew = W9 := ⟨_, rfl⟩
      have HX9 : WithSt w w.heap.size w1.heap.size w2.heap.size D a xs.length cap l t M (P - S) b W9 := by
        rw [← hW9]
        exact ⟨HB0.out, h1, h2, h3, h5, h6, h7, h8, h9, (below_drewN h11 n5).drew, h12, hdf⟩
      have HXX := HX9
      obtain ⟨k0, k1, k2, k3, k4, k5, k6, k7, k8, k9, k10, k11⟩ := HXX
      have g7 := k0.get (i := k) (by omega)
      rw [← HYB.out] at g7
      have g8 := Blk.frozen k0 k
      have HX9' := Lib.hid HX9
      refine wp_region_still_tail 10 (by kernel_rfl) (by kernel_rfl) ?_
      change wpStill _ _ (W.drewN n5).drew (fun a' => wpList _ _ _ _ a' (W.drewN n5).drew) _ _
      rw [hW9]
      clear hW9 HX9 h1 h2 h3 h4 h5 h6 h7 h8 h9 h10 h11 h12 hdf g5 g6 k0
      simp only [List.take_succ_cons, List.take_zero, List.drop_succ_cons, List.drop_zero]
      repeat still_step
      still_call (qw _)
      repeat still_step
      try refine wpStill_nil ?_
      go_wp2
      obtain ⟨Wx, hWx⟩ : ∃ Wx, (W9.setCell ⟨w2.heap.size, k, none⟩ (.int .i64 (z + (P - S)))).setCell ⟨w2.heap.size + 2, 0, none⟩ (.int .i64 0) = Wx := ⟨_, rfl⟩
      obtain ⟨ps, hps⟩ : ∃ ps, b.set k (z + (P - S)) = ps := ⟨_, rfl⟩
      obtain ⟨K, hK⟩ : ∃ K : Nat, 0 = K := ⟨_, rfl⟩
      have HX : WithSt w w.heap.size w1.heap.size w2.heap.size D a xs.length cap l t M (((0 : Nat) : Int) - (K : Int)) (decs 0 ps) Wx := by
        rw [← hWx, ← hps, ← hK]
        exact (HX9'.out.prob (by omega) k _).left (by omega) 0
      have HDD : Hid (dist0 xs l = decs K ps) := Lib.hid (by rw [HD.out, hps, ← hK]; rfl)
      have HPL : Hid (ps.length = M) := Lib.hid (by rw [← hps, List.length_set]; exact hbl)
      have HPB : Hid (∀ i, i < ps.length → (-1 : Int) ≤ ps.getD i 0 ∧ ps.getD i 0 ≤ 10000) := by
        refine Lib.hid (fun i hi => ?_)
        rw [← hps] at hi ⊢
        rw [List.length_set] at hi
        have := BBD.out i (by omega)
        rw [List.getD_eq_getElem?_getD, List.getElem?_set]
        by_cases hki : k = i
        · rw [if_pos hki, if_pos (by omega)]
          simp only [Option.getD_some]
          omega
        · rw [if_neg hki, ← List.getD_eq_getElem?_getD]
          omega
      rw [hWx]
      have hK2 : K ≤ 2000000 := by omega
      clear hWx hps hK k1 k2 k3 k4 k5 k6 k7 k8 k9 k10 k11 g7 g8 wr1 qw qG hrW HX9' HD HYB HB0 BBD
      go_step3
      go_wp2
      go_loopw [91] (fun _ wr => ∃ j : Nat, j ≤ K ∧ WithSt w w.heap.size w1.heap.size w2.heap.size D a xs.length cap l t M ((j : Int) - (K : Int)) (decs j ps) wr) (fun _ wr => mleft wr (w2.heap.size + 2))
      case atStart => exact ⟨0, by omega, HX⟩
      case round =>
        clear HX
        obtain ⟨j, hj, HW⟩ := hrel
        have HWC := Lib.hid HW
        obtain ⟨h0, h1, h2, h3, h4, h5, h6, h7, h8, h9, h10, h11⟩ := HW
        by_cases hjk : j < K
        · have e5 : ((j : Int) - (K : Int) == 0) = false := by rw [beq_eq_false_iff_ne]; omega
          have hdl : (decs j ps).length = M := by rw [decs_len]; exact HPL.out
          have hrow := Blk.row h0
          have qD := fun (w : World) (h : Row .i64 w (some ⟨w2.heap.size, 0, none⟩) (decs j ps)) => greatest_q (some ⟨w2.heap.size, 0, none⟩) (decs j ps) M w h (by omega)
          rw [hdl] at qD
          have hm := amx_lt (decs j ps) (by omega)
          have hbd := decs_bd HPB.out j (amx (decs j ps)) (by rw [HPL.out]; omega)
          have hds : decs (j + 1) ps = (decs j ps).set (amx (decs j ps)) ((decs j ps).getD (amx (decs j ps)) 0 - 1) := decs_succ j ps
          obtain ⟨m, hmm⟩ : ∃ m, amx (decs j ps) = m := ⟨_, rfl⟩
          rw [hmm] at qD hm hbd hds
          have g5 := h0.get (i := m) hm
          have g6 := Blk.frozen h0 m
          obtain ⟨v, hv⟩ : ∃ v, (decs j ps).getD m 0 = v := ⟨_, rfl⟩
          rw [hv] at g5 hbd hds
          obtain ⟨v1, v2⟩ := hbd
          have HDS := Lib.hid hds
          have i1 : (0 : Int) ≤ (m : Int) := by omega
          have i2 : (m : Int) < (M : Int) := by omega
          have wr2 : IntKind.i64.wrap (v - 1) = v - 1 := IntWalk.i64_in _ (by omega)
          clear h0 hmm hv hds hm
          go_wp2
          have k1 : w2.heap.size < wr.heap.size := by omega
          have k2 : w2.heap.size + 1 < wr.heap.size := by omega
          go_cut [99] from 91 to 101 (fun _ wx => WithSt w w.heap.size w1.heap.size w2.heap.size D a xs.length cap l t M ((j : Int) - (K : Int)) (decs (j + 1) ps) wx)
          case first =>
            refine wp_region_noPanic ?_
            go_region_with (go_at_call 67; refine (qD _ (hrow.later (by repeat' (first | exact Below.refl _ _ | refine Below.drew ?_ | refine below_drewN ?_ _ | refine Below.alloc ?_ (by first | omega | (simp <;> omega)) _ | refine Below.setCell ?_ (by first | omega | (simp <;> omega)) _ | refine Below.trans ?_ (Below.mono (by assumption) (by first | omega | (simp <;> omega))))))).mono ?_; rintro e w5 ⟨rfl, n5, rfl⟩)
            all_goals (refine NoPanic.normal ?_)
            all_goals (go_wp2_with fail; go_meet; go_light)
            all_goals (rw [HDS.out]; repeat' (first | exact HWC.out | refine WithSt.drew ?_ | refine WithSt.drewN ?_ _ | refine WithSt.prob ?_ (by omega) _ _))
          case rest =>
            have HCU := Lib.hid hcut
            obtain ⟨_, _, z2, z3, _, _, _, _, _, _, _, _⟩ := hcut
            clear wr2
            go_wp2
            go_roundw
            case rel =>
              refine ⟨j + 1, by omega, ?_⟩
              rw [show ((j + 1 : Nat) : Int) - (K : Int) = (j : Int) - (K : Int) + 1 by omega]
              exact HCU.out.left (by omega) _
            case measure =>
              have hq : (wc.setCell ⟨w2.heap.size + 2, 0, none⟩ (.int .i64 ((j : Int) - (K : Int) + 1))).cell? ⟨w2.heap.size + 2, 0, none⟩ = some (.int .i64 ((j : Int) - (K : Int) + 1)) := by simp [go_sem, *]
              rw [mleft_eq h2]
              refine Nat.lt_of_le_of_lt (Nat.le_of_eq (mleft_eq hq)) ?_
              omega
        · obtain rfl : j = K := by omega
          have e5 : ((j : Int) - (j : Int) == 0) = true := by simp
          have hdl : (decs j ps).length = M := by rw [decs_len]; exact HPL.out
          have HB0 := Lib.hid h0
          have k3 : ¬ w.heap.size + 1 = w2.heap.size := by omega
          clear h0
          go_wp2
          all_goals (try rw [Exit.noGoto_ret])
          refine ⟨by simp, .inl ⟨_, _, rfl, run_takeDeferred (by repeat' (first | exact h11 | apply setCell_deferred)), ?_⟩⟩
          go_light
          refine ⟨.tuple #[.agg #[.int .i64 (l : Int), .slice (some ⟨w2.heap.size, 0, none⟩) M M], .int .i64 0], by simp [results, Try.results48, go_sem, cell?_putDeferred (setCell_deferred (setCell_deferred h11 _ _) _ _), *], ?_⟩
          have q1 := (Blk.other (Blk.other HB0.out (a := ⟨w.heap.size + 1, 0, none⟩) (by simp; omega) (.int .i64 (l : Int))) (a := ⟨w.heap.size + 1, 1, none⟩) (by simp; omega) (.slice (some ⟨w2.heap.size, 0, none⟩) M M)).keep (Keep.putObj (B := 0) (.deferred none) (by omega) (setCell_deferred (setCell_deferred h11 _ _) _ _) rfl)
          refine ⟨some ⟨w2.heap.size, 0, none⟩, M, ?_, ?_, ?_, ?_⟩
          · simp only [HDD.out, hdl]
          · intro g hg
            simp [Value.ownBlock] at hg
            omega
          · rw [HDD.out]
            exact Blk.row q1
          · exact below_putObj ((h9.setCell (by simp) _).setCell (by simp) _) (by omega) _
    · rw [if_neg hlf] at hdist
      obtain ⟨K, hK⟩ : ∃ K : Nat, (S - P).toNat = K := ⟨_, rfl⟩
      obtain ⟨ps, hps⟩ : ∃ ps, b = ps := ⟨_, rfl⟩
      have hls : P - S = ((0 : Nat) : Int) - (K : Int) := by omega
      have HX : WithSt w w.heap.size w1.heap.size w2.heap.size D a xs.length cap l t M (((0 : Nat) : Int) - (K : Int)) (decs 0 ps) W := by
        rw [← hls, ← hps]
        exact ⟨h0, h1, h2, h3, h5, h6, h7, h8, h9, h11, h12, hdf⟩
      have HDD : Hid (dist0 xs l = decs K ps) := Lib.hid (by rw [hdist, hK, hps])
      have HPL : Hid (ps.length = M) := Lib.hid (by rw [← hps]; exact hbl)
      have HPB : Hid (∀ i, i < ps.length → (-1 : Int) ≤ ps.getD i 0 ∧ ps.getD i 0 ≤ 10000) := by
        refine Lib.hid (fun i hi => ?_)
        rw [← hps] at hi ⊢
        have := BBD.out i (by omega)
        omega
      have hK2 : K ≤ 2000000 := by omega
      clear hK hps hls hdist BBD h0 am1 am2
      go_wp2
      clear h1 h2 h3 h4 h5 h6 h7 h8 h9 h10 h11 h12 hdf
      go_step3
      go_wp2
      go_loopw [91] (fun _ wr => ∃ j : Nat, j ≤ K ∧ WithSt w w.heap.size w1.heap.size w2.heap.size D a xs.length cap l t M ((j : Int) - (K : Int)) (decs j ps) wr) (fun _ wr => mleft wr (w2.heap.size + 2))
      case atStart => exact ⟨0, by omega, HX⟩
      case round =>
        clear HX
        obtain ⟨j, hj, HW⟩ := hrel
        have HWC := Lib.hid HW
        obtain ⟨h0, h1, h2, h3, h4, h5, h6, h7, h8, h9, h10, h11⟩ := HW
        by_cases hjk : j < K
        · have e5 : ((j : Int) - (K : Int) == 0) = false := by rw [beq_eq_false_iff_ne]; omega
          have hdl : (decs j ps).length = M := by rw [decs_len]; exact HPL.out
          have hrow := Blk.row h0
          have qD := fun (w : World) (h : Row .i64 w (some ⟨w2.heap.size, 0, none⟩) (decs j ps)) => greatest_q (some ⟨w2.heap.size, 0, none⟩) (decs j ps) M w h (by omega)
          rw [hdl] at qD
          have hm := amx_lt (decs j ps) (by omega)
          have hbd := decs_bd HPB.out j (amx (decs j ps)) (by rw [HPL.out]; omega)
          have hds : decs (j + 1) ps = (decs j ps).set (amx (decs j ps)) ((decs j ps).getD (amx (decs j ps)) 0 - 1) := decs_succ j ps
          obtain ⟨m, hmm⟩ : ∃ m, amx (decs j ps) = m := ⟨_, rfl⟩
          rw [hmm] at qD hm hbd hds
          have g5 := h0.get (i := m) hm
          have g6 := Blk.frozen h0 m
          obtain ⟨v, hv⟩ : ∃ v, (decs j ps).getD m 0 = v := ⟨_, rfl⟩
          rw [hv] at g5 hbd hds
          obtain ⟨v1, v2⟩ := hbd
          have HDS := Lib.hid hds
          have i1 : (0 : Int) ≤ (m : Int) := by omega
          have i2 : (m : Int) < (M : Int) := by omega
          have wr2 : IntKind.i64.wrap (v - 1) = v - 1 := IntWalk.i64_in _ (by omega)
          clear h0 hmm hv hds hm
          go_wp2
          have k1 : w2.heap.size < wr.heap.size := by omega
          have k2 : w2.heap.size + 1 < wr.heap.size := by omega
          go_cut [99] from 91 to 101 (fun _ wx => WithSt w w.heap.size w1.heap.size w2.heap.size D a xs.length cap l t M ((j : Int) - (K : Int)) (decs (j + 1) ps) wx)
          case first =>
            refine wp_region_noPanic ?_
            go_region_with (go_at_call 67; refine (qD _ (hrow.later (by repeat' (first | exact Below.refl _ _ | refine Below.drew ?_ | refine below_drewN ?_ _ | refine Below.alloc ?_ (by first | omega | (simp <;> omega)) _ | refine Below.setCell ?_ (by first | omega | (simp <;> omega)) _ | refine Below.trans ?_ (Below.mono (by assumption) (by first | omega | (simp <;> omega))))))).mono ?_; rintro e w5 ⟨rfl, n5, rfl⟩)
            all_goals (refine NoPanic.normal ?_)
            all_goals (go_wp2_with fail; go_meet; go_light)
            all_goals (rw [HDS.out]; repeat' (first | exact HWC.out | refine WithSt.drew ?_ | refine WithSt.drewN ?_ _ | refine WithSt.prob ?_ (by omega) _ _))
          case rest =>
            have HCU := Lib.hid hcut
            obtain ⟨_, _, z2, z3, _, _, _, _, _, _, _, _⟩ := hcut
            clear wr2
            go_wp2
            go_roundw
            case rel =>
              refine ⟨j + 1, by omega, ?_⟩
              rw [show ((j + 1 : Nat) : Int) - (K : Int) = (j : Int) - (K : Int) + 1 by omega]
              exact HCU.out.left (by omega) _
            case measure =>
              have hq : (wc.setCell ⟨w2.heap.size + 2, 0, none⟩ (.int .i64 ((j : Int) - (K : Int) + 1))).cell? ⟨w2.heap.size + 2, 0, none⟩ = some (.int .i64 ((j : Int) - (K : Int) + 1)) := by simp [go_sem, *]
              rw [mleft_eq h2]
              refine Nat.lt_of_le_of_lt (Nat.le_of_eq (mleft_eq hq)) ?_
              omega
        · obtain rfl : j = K := by omega
          have e5 : ((j : Int) - (j : Int) == 0) = true := by simp
          have hdl : (decs j ps).length = M := by rw [decs_len]; exact HPL.out
          have HB0 := Lib.hid h0
          have k3 : ¬ w.heap.size + 1 = w2.heap.size := by omega
          clear h0
          go_wp2
          all_goals (try rw [Exit.noGoto_ret])
          refine ⟨by simp, .inl ⟨_, _, rfl, run_takeDeferred (by repeat' (first | exact h11 | apply setCell_deferred)), ?_⟩⟩
          go_light
          refine ⟨.tuple #[.agg #[.int .i64 (l : Int), .slice (some ⟨w2.heap.size, 0, none⟩) M M], .int .i64 0], by simp [results, Try.results48, go_sem, cell?_putDeferred (setCell_deferred (setCell_deferred h11 _ _) _ _), *], ?_⟩
          have q1 := (Blk.other (Blk.other HB0.out (a := ⟨w.heap.size + 1, 0, none⟩) (by simp; omega) (.int .i64 (l : Int))) (a := ⟨w.heap.size + 1, 1, none⟩) (by simp; omega) (.slice (some ⟨w2.heap.size, 0, none⟩) M M)).keep (Keep.putObj (B := 0) (.deferred none) (by omega) (setCell_deferred (setCell_deferred h11 _ _) _ _) rfl)
          refine ⟨some ⟨w2.heap.size, 0, none⟩, M, ?_, ?_, ?_, ?_⟩
          · simp only [HDD.out, hdl]
          · intro g hg
            simp [Value.ownBlock] at hg
            omega
          · rw [HDD.out]
            exact Blk.row q1
          · exact below_putObj ((h9.setCell (by simp) _).setCell (by simp) _) (by omega) _

end Go.Proofs.Ytgponpjlkebjcaa
