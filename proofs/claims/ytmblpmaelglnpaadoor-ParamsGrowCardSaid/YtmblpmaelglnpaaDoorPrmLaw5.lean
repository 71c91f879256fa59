/-
  The statement about growing parameters, walked.
-/
import Derived.Test.YtmblpmaelglnpaaDoorRows
import Derived.Test.YtmblpmaelglnpaaDoorPrmLaw3
import Derived.Test.YtmblpmaelglnpaaDoorAnyInv
import Derived.Test.YtmblpmaelglnpaaDoorGBase
import Derived.Deep.Light
import Derived.Shelf.Abstract
import Derived.Shelf.RegionOpen
import Derived.OwnWalkIn
import Derived.TacticsInMore
import Derived.LoopNIn
import Derived.LoopIn
import Derived.Deep.RegionHeld3
import Derived.Outline
import Derived.IntWalk
import Derived.WalkMore
namespace Go.Proofs.YtmblpmaelglnpaaDoor
open Go.RowKit
set_option linter.unusedSimpArgs false
set_option linter.unusedVariables false
open Go.Shelf
attribute [local go_sem] Oper.semAt_some

/-- The three new boxes hold these parameters. -/
def Three (w : World) (B4 B5 B6 : Nat) (p q r : Prm) : Prop := (B4 ≠ B5 ∧ B4 ≠ B6 ∧ B5 ≠ B6) ∧ Blk w B4 58 (pcells p) ∧ Blk w B5 58 (pcells q) ∧ Blk w B6 58 (pcells r)
theorem six {X Y : World} {B : Nat} {t : TypeId} {v0 v1 v2 v3 v4 v5 : Value} (h : Blk X B t [v0, v1, v2, v3, v4, v5]) (hb : Below X.heap.size X Y) : Y.cell? ⟨B, 0, none⟩ = some (v0) ∧ Y.cell? ⟨B, 1, none⟩ = some (v1) ∧ Y.cell? ⟨B, 2, none⟩ = some (v2) ∧ Y.cell? ⟨B, 3, none⟩ = some (v3) ∧ Y.cell? ⟨B, 4, none⟩ = some (v4) ∧ Y.cell? ⟨B, 5, none⟩ = some (v5) :=
  ⟨(h.later hb).cell 0, (h.later hb).cell 1, (h.later hb).cell 2, (h.later hb).cell 3, (h.later hb).cell 4, (h.later hb).cell 5⟩
theorem depth_mono {a U : Int} (h1 : 1 ≤ a) (h2 : a ≤ U) (h3 : U ≤ 9) : depthT a ≤ depthT U ∧ 1 ≤ depthT a := by
  rcases nine h1 (by omega) with rfl | rfl | rfl | rfl | rfl | rfl | rfl | rfl | rfl <;> rcases nine (L := U) (by omega) h3 with rfl | rfl | rfl | rfl | rfl | rfl | rfl | rfl | rfl <;> first | omega | decide
theorem lazy_mono {a U : Int} (h2 : a ≤ U) : lazyT a ≤ lazyT U ∧ 0 ≤ lazyT a := by
  unfold lazyT
  repeat' split
  all_goals omega
theorem pre_mono {W a V : Int} (h1 : 0 ≤ a) (h2 : a ≤ V) (h3 : V ≤ 9) : preT W a ≤ preT W V ∧ preT W V ≤ winT W ∧ preT W 9 = winT W := by
  unfold preT winT
  refine ⟨?_, ?_, by simp⟩
  · by_cases ha : a = 0
    · rw [if_pos ha]
      split
      · exact Int.le_refl _
      · exact Int.natCast_nonneg _
    · rw [if_neg ha, if_neg (by omega)]
      have : 2 ^ W.toNat / 2 ^ (9 - a.toNat) ≤ 2 ^ W.toNat / 2 ^ (9 - V.toNat) := Nat.div_le_div_left (Nat.pow_le_pow_right (by decide) (by omega)) (Nat.pow_pos (by decide))
      exact Int.ofNat_le.2 this
  · split
    · exact Int.natCast_nonneg _
    · exact Int.ofNat_le.2 (Nat.div_le_self _ _)
theorem def_ok {l : Int} (h1 : 1 ≤ l) (h2 : l ≤ 9) : ∃ q : Prm, defR l = (q, 0) ∧ q.lv = l ∧ okP q = true := by
  unfold defR
  rw [if_pos ⟨h1, h2⟩]
  refine ⟨_, rfl, rfl, ?_⟩
  rcases nine h1 h2 with rfl | rfl | rfl | rfl | rfl | rfl | rfl | rfl | rfl <;> kernel_rfl
theorem blk_drew {w : World} {B : Nat} {t : TypeId} {vs : List Value} (h : Blk w B t vs) : Blk w.drew B t vs := h
theorem set_lv {X : World} {B : Nat} {t : TypeId} {u : Int} {a1 a2 a3 a4 : Int} {a5 a6 : Bool} (h : Blk X B t (pcells (⟨a1, a2, a3, a4, a5, a6⟩ : Prm))) : Blk (X.setCell ⟨B, 0, none⟩ (.int .i64 u)) B t (pcells ⟨u, a2, a3, a4, a5, a6⟩) := h.set 0 _
theorem set_ov {X : World} {B : Nat} {t : TypeId} {u : Int} {a1 a2 a3 a4 : Int} {a5 a6 : Bool} (h : Blk X B t (pcells (⟨a1, a2, a3, a4, a5, a6⟩ : Prm))) : Blk (X.setCell ⟨B, 3, none⟩ (.int .i64 u)) B t (pcells ⟨a1, a2, a3, u, a5, a6⟩) := h.set 3 _
theorem blk_newp {X : World} {B : Nat} {t : TypeId} (h : B = X.heap.size) (a1 a2 a3 a4 : Int) (a5 a6 : Bool) : Blk (X.alloc (.cells #[.int .i64 a1, .int .i64 a2, .int .i64 a3, .int .i64 a4, .bool a5, .bool a6] t)) B t (pcells (⟨a1, a2, a3, a4, a5, a6⟩ : Prm)) := by
  subst h
  exact Blk.new X t _
theorem blk_new6 {X : World} {B : Nat} {t : TypeId} (h : B = X.heap.size) : Blk (X.alloc (.cells #[.int .i64 0, .int .i64 0, .int .i64 0, .int .i64 0, .bool false, .bool false] t)) B t (pcells prm0) := by
  subst h
  exact Blk.new X t _
theorem wpAny_inv2 {P : Program} {md : Region.Mode} {ops : Array Oper} {Q : Exit → Act → World → Prop} (I : Act → Array Bool → Act → World → Prop) {n : Nat} {listed0 : Array Bool} {A0 : Act} {w0 : World}
    (hn : unl listed0 = n) (h0 : I A0 listed0 A0 w0)
    (h : ∀ listed a w, I A0 listed a w → (Region.ready md ops listed = [] → Q .normal a w) ∧ ∀ i ∈ Region.ready md ops listed, Step P md ops Q (I A0) listed a w i) :
    wpAny P md ops Q n listed0 A0 w0 := by
  have key : ∀ n listed a w, unl listed = n → I A0 listed a w → wpAny P md ops Q n listed a w := by
    intro n
    induction n with
    | zero =>
      intro listed a w hn hi
      obtain ⟨h1, _⟩ := h listed a w hi
      have e : Region.ready md ops listed = [] := by
        cases hr : Region.ready md ops listed with
        | nil => rfl
        | cons i r =>
          have := unl_set (ready_unlisted (md := md) (ops := ops) (listed := listed) (i := i) (by rw [hr]; simp))
          omega
      exact ⟨e, h1 e⟩
    | succ n ih =>
      intro listed a w hn hi
      obtain ⟨h1, h2⟩ := h listed a w hi
      refine ⟨h1, fun i hm => ?_⟩
      have hu := unl_set (ready_unlisted hm)
      refine wpOp_mono ?_ (h2 i hm)
      rintro a' w' (h3 | h3)
      · exact ih _ _ _ (by omega) h3
      · have e : unl (listed.setIfInBounds i true) = n := by omega
        rw [e] at h3
        exact h3
  exact key n listed0 A0 w0 hn h0

set_option maxRecDepth 100000 in
set_option maxHeartbeats 16000000 in
theorem paramsGrow_no (a1 a2 a3 a4 : Int) (a5 a6 : Bool) (h : ¬ okP (⟨a1, a2, a3, a4, a5, a6⟩ : Prm) = true) (w : World) (hE : PEnv w) : Calls Tryd.prog 14 #[.agg #[.int .i64 a1, .int .i64 a2, .int .i64 a3, .int .i64 a4, .bool a5, .bool a6]] w fun e w' => e = .returned (.bool true) ∧ Below w.heap.size w w' := by
  have qC := fun w => pcheck_p a1 a2 a3 a4 a5 a6 w
  have hpk := okP_pchk (⟨a1, a2, a3, a4, a5, a6⟩ : Prm)
  dsimp only at hpk
  rw [hpk, if_neg h] at qC
  clear hpk
  go_enter Tryd.func14, Tryd.ntmps14
  go_wp2_with (first | (go_at_call 12; refine (paramsKnown_t _ (hE.later (by repeat' (first | with_reducible exact Below.refl _ _ | with_reducible refine Below.drew ?_ | with_reducible refine below_drewN ?_ _ | with_reducible refine Below.alloc ?_ (by first | omega | (simp <;> omega)) _ | with_reducible refine Below.setCell ?_ (by first | omega | (dsimp only; omega) | (simp <;> omega)) _ | with_reducible refine Below.trans ?_ (Below.mono (by assumption) (by first | omega | (simp <;> omega))))))).mono ?_; rintro en w1 ⟨rfl, hb1⟩; have hs1 := hb1.size; (simp at hs1); have z0 : Blk w1 w.heap.size 58 [.int .i64 a1, .int .i64 a2, .int .i64 a3, .int .i64 a4, .bool a5, .bool a6] := (Blk.new w 58 #[.int .i64 a1, .int .i64 a2, .int .i64 a3, .int .i64 a4, .bool a5, .bool a6]).later hb1; have z1 := z0.cell 0; have z2 := z0.cell 1; have z3 := z0.cell 2; have z4 := z0.cell 3; have z5 := z0.cell 4; have z6 := z0.cell 5; (dsimp only [List.getElem?_cons_zero, List.getElem?_cons_succ] at z1 z2 z3 z4 z5 z6)) | (go_at_call 55; (with_reducible refine (qC _).mono ?_); rintro en w2 ⟨rfl, hb2⟩; have hs2 := hb2.size; (try simp at hs2)))
  go_light
  refine bodyPost_ret (v := .bool true) (by simp [results, Tryd.results14, go_sem, *]) rfl ⟨rfl, ?_⟩
  repeat' (first | with_reducible exact Below.refl _ _ | with_reducible refine Below.drew ?_ | with_reducible refine below_drewN ?_ _ | with_reducible refine Below.alloc ?_ (by first | omega | (simp <;> omega)) _ | with_reducible refine Below.setCell ?_ (by first | omega | (dsimp only; omega) | (simp <;> omega)) _ | with_reducible refine Below.trans ?_ (Below.mono (by assumption) (by first | omega | (simp <;> omega))))
set_option maxRecDepth 100000 in
set_option maxHeartbeats 16000000 in
theorem paramsGrow_1 (a1 a2 a3 a4 : Int) (a5 a6 : Bool) (h : okP (⟨a1, a2, a3, a4, a5, a6⟩ : Prm) = true) (w : World) (hE : PEnv w) : Calls Tryd.prog 14 #[.agg #[.int .i64 a1, .int .i64 a2, .int .i64 a3, .int .i64 a4, .bool a5, .bool a6]] w fun e w' => e = .returned (.bool true) ∧ Below w.heap.size w w' := by
  have qC := fun w => pcheck_p a1 a2 a3 a4 a5 a6 w
  have hpk := okP_pchk (⟨a1, a2, a3, a4, a5, a6⟩ : Prm)
  dsimp only at hpk
  rw [hpk, if_pos h] at qC
  clear hpk
  obtain ⟨o1, o2, o3, o4, o5, o6, o7, o8⟩ := okP_get h
  dsimp only at o1 o2 o3 o4 o5 o6 o7 o8
  go_enter Tryd.func14, Tryd.ntmps14
  go_upto_if 28 with (first | (go_at_call 12; refine (paramsKnown_t _ (hE.later (by repeat' (first | with_reducible exact Below.refl _ _ | with_reducible refine Below.drew ?_ | with_reducible refine below_drewN ?_ _ | with_reducible refine Below.alloc ?_ (by first | omega | (simp <;> omega)) _ | with_reducible refine Below.setCell ?_ (by first | omega | (dsimp only; omega) | (simp <;> omega)) _ | with_reducible refine Below.trans ?_ (Below.mono (by assumption) (by first | omega | (simp <;> omega))))))).mono ?_; rintro en w1 ⟨rfl, hb1⟩; have hs1 := hb1.size; (simp at hs1); have z0 : Blk w1 w.heap.size 58 [.int .i64 a1, .int .i64 a2, .int .i64 a3, .int .i64 a4, .bool a5, .bool a6] := (Blk.new w 58 #[.int .i64 a1, .int .i64 a2, .int .i64 a3, .int .i64 a4, .bool a5, .bool a6]).later hb1; have z1 := z0.cell 0; have z2 := z0.cell 1; have z3 := z0.cell 2; have z4 := z0.cell 3; have z5 := z0.cell 4; have z6 := z0.cell 5; (dsimp only [List.getElem?_cons_zero, List.getElem?_cons_succ] at z1 z2 z3 z4 z5 z6)) | (go_at_call 55; (with_reducible refine (qC _).mono ?_); rintro en w2 ⟨rfl, hb2⟩; have hs2 := hb2.size; (try simp at hs2)))
  have y0 := z0.later hb2
  obtain ⟨H, hH⟩ : ∃ H, w.heap.size = H := ⟨_, rfl⟩
  rw [hH] at y0 ⊢
  have B2 : Below H w w2 := by rw [← hH]; repeat' (first | with_reducible exact Below.refl _ _ | with_reducible refine Below.drew ?_ | with_reducible refine below_drewN ?_ _ | with_reducible refine Below.alloc ?_ (by first | omega | (simp <;> omega)) _ | with_reducible refine Below.setCell ?_ (by first | omega | (dsimp only; omega) | (simp <;> omega)) _ | with_reducible refine Below.trans ?_ (Below.mono (by assumption) (by first | omega | (simp <;> omega))))
  have hl : H < w2.heap.size := y0.lt
  have HH := Lib.hid hH
  clear z0 z1 z2 z3 z4 z5 z6 hb1 hb2 hs1 hs2 hH qC
  have c0 := y0.cell 0; have c1 := y0.cell 1; have c2 := y0.cell 2; have c3 := y0.cell 3; have c4 := y0.cell 4; have c5 := y0.cell 5
  dsimp only [List.getElem?_cons_zero, List.getElem?_cons_succ] at c0 c1 c2 c3 c4 c5
  go_cut [4, 5, 6] from 28 to 30 (fun s4 s5 s6 wx => ∃ B4 B5 B6 : Nat, s4 = .pointer (some ⟨B4, 0, none⟩) ∧ s5 = .pointer (some ⟨B5, 0, none⟩) ∧ s6 = .pointer (some ⟨B6, 0, none⟩) ∧ w2.heap.size ≤ B4 ∧ w2.heap.size ≤ B5 ∧ w2.heap.size ≤ B6 ∧ Below w2.heap.size w2 wx ∧ Three wx B4 B5 B6 (⟨a1, a2, a3, a4, a5, a6⟩ : Prm) (⟨a1, a2, a3, a4, a5, a6⟩ : Prm) (⟨a1, a2, a3, a4, a5, a6⟩ : Prm))
  case first =>
    go_region_held3 (fun w' => w'.cell? ⟨H, 0, none⟩ = some (.int .i64 a1) ∧ w'.cell? ⟨H, 1, none⟩ = some (.int .i64 a2) ∧ w'.cell? ⟨H, 2, none⟩ = some (.int .i64 a3) ∧ w'.cell? ⟨H, 3, none⟩ = some (.int .i64 a4) ∧ w'.cell? ⟨H, 4, none⟩ = some (.bool a5) ∧ w'.cell? ⟨H, 5, none⟩ = some (.bool a6)) ((refine six y0 ?_; repeat' (first | with_reducible exact Below.refl _ _ | with_reducible refine Below.drew ?_ | with_reducible refine below_drewN ?_ _ | with_reducible refine Below.alloc ?_ (by first | omega | (simp <;> omega)) _ | with_reducible refine Below.setCell ?_ (by first | omega | (dsimp only; omega) | (simp <;> omega)) _ | with_reducible refine Below.trans ?_ (Below.mono (by assumption) (by first | omega | (simp <;> omega)))))) (fail)
    all_goals go_wp2_with fail
    all_goals go_meet
    all_goals go_light
    all_goals refine ⟨_, _, _, rfl, rfl, rfl, ?_, ?_, ?_, ?_, ⟨?_, ?_, ?_⟩, ?_, ?_, ?_⟩
    all_goals first | omega | skip
    all_goals try (refine blk_drew ?_; with_reducible (repeat' (first | (refine blk_newp ?_ _ _ _ _ _ _; (simp; done)) | refine Blk.alloc ?_ _)))
    all_goals (repeat' (first | with_reducible exact Below.refl _ _ | with_reducible refine Below.drew ?_ | with_reducible refine below_drewN ?_ _ | with_reducible refine Below.alloc ?_ (by first | omega | (simp <;> omega)) _ | with_reducible refine Below.setCell ?_ (by first | omega | (dsimp only; omega) | (simp <;> omega)) _ | with_reducible refine Below.trans ?_ (Below.mono (by assumption) (by first | omega | (simp <;> omega)))))
  case rest =>
    obtain ⟨B4, B5, B6, rfl, rfl, rfl, l4, l5, l6, hB3, ⟨n45, n46, n56⟩, T4, T5, T6⟩ := hcut
    have y3 := y0.later hB3
    have hs3 := hB3.size
    have B3 : Below H w wc := B2.trans (hB3.mono (by omega))
    have k4 := T4.lt
    have k5 := T5.lt
    have k6 := T6.lt
    have j4 : H ≤ B4 := by omega
    have j5 : H ≤ B5 := by omega
    have j6 : H ≤ B6 := by omega
    have m4 : ¬ H = B4 := by omega
    have m5 : ¬ H = B5 := by omega
    have m6 : ¬ H = B6 := by omega
    obtain ⟨V, hV, hV0⟩ : ∃ V : Int, min 9 (IntKind.i64.wrap (a4 + 1)) = V ∧ a4 ≤ V ∧ V ≤ 9 := by
      rw [IntWalk.i64_in _ (by omega)]
      exact ⟨_, rfl, by omega, by omega⟩
    obtain ⟨U, hU, hU0⟩ : ∃ U : Int, min 9 (IntKind.i64.wrap (a1 + 1)) = U ∧ a1 ≤ U ∧ U ≤ 9 := by
      rw [IntWalk.i64_in _ (by omega)]
      exact ⟨_, rfl, by omega, by omega⟩
    clear y0 hB3 B2 l4 l5 l6 c0 c1 c2 c3 c4 c5
    have c0 := y3.cell 0; have c1 := y3.cell 1; have c2 := y3.cell 2; have c3 := y3.cell 3; have c4 := y3.cell 4; have c5 := y3.cell 5
    have p0 := T4.cell 0; have p1 := T4.cell 1; have p2 := T4.cell 2; have p3 := T4.cell 3; have p4 := T4.cell 4; have p5 := T4.cell 5
    have q0 := T5.cell 0; have q1 := T5.cell 1; have q2 := T5.cell 2; have q3 := T5.cell 3; have q4 := T5.cell 4; have q5 := T5.cell 5
    have r0 := T6.cell 0; have r1 := T6.cell 1; have r2 := T6.cell 2; have r3 := T6.cell 3; have r4 := T6.cell 4; have r5 := T6.cell 5
    unfold pcells at p0 p1 p2 p3 p4 p5 q0 q1 q2 q3 q4 q5 r0 r1 r2 r3 r4 r5
    dsimp only [List.getElem?_cons_zero, List.getElem?_cons_succ] at c0 c1 c2 c3 c4 c5 p0 p1 p2 p3 p4 p5 q0 q1 q2 q3 q4 q5 r0 r1 r2 r3 r4 r5
    have f0 := T4.frozen 0
    have f3 := T5.frozen 3
    have g3 := T6.frozen 3
    go_wp2
    go_cut [31] from 31 to 41 (fun s31 wx => ∃ U V : Int, (a1 ≤ U ∧ U ≤ 9) ∧ (a4 ≤ V ∧ V ≤ 9) ∧ Below H w wx ∧ Blk wx H 58 [.int .i64 a1, .int .i64 a2, .int .i64 a3, .int .i64 a4, .bool a5, .bool a6] ∧ Three wx B4 B5 B6 ⟨U, a2, a3, a4, a5, a6⟩ ⟨a1, a2, a3, V, a5, a6⟩ ⟨a1, a2, a3, 9, a5, a6⟩)
    case first =>
      go_region_held3 (fun w' => w'.cell? ⟨H, 0, none⟩ = some (.int .i64 a1) ∧ w'.cell? ⟨H, 1, none⟩ = some (.int .i64 a2) ∧ w'.cell? ⟨H, 2, none⟩ = some (.int .i64 a3) ∧ w'.cell? ⟨H, 3, none⟩ = some (.int .i64 a4) ∧ w'.cell? ⟨H, 4, none⟩ = some (.bool a5) ∧ w'.cell? ⟨H, 5, none⟩ = some (.bool a6)) ((simp [go_sem, *])) (fail)
      all_goals go_wp2_with fail
      all_goals go_meet
      all_goals go_light
      all_goals refine ⟨U, V, hU0, hV0, ?_, ?_, ⟨n45, n46, n56⟩, ?_, ?_, ?_⟩
      all_goals first
        | (refine Below.drew ?_; with_reducible refine Below.setCell ?_ j6 _; with_reducible refine Below.setCell ?_ j5 _; with_reducible refine Below.setCell ?_ j4 _; exact B3)
        | (refine Below.drew ?_; with_reducible refine Below.setCell ?_ j6 _; with_reducible refine Below.setCell ?_ j4 _; with_reducible refine Below.setCell ?_ j5 _; exact B3)
        | (refine Below.drew ?_; with_reducible refine Below.setCell ?_ j5 _; with_reducible refine Below.setCell ?_ j6 _; with_reducible refine Below.setCell ?_ j4 _; exact B3)
        | (refine Below.drew ?_; with_reducible refine Below.setCell ?_ j5 _; with_reducible refine Below.setCell ?_ j4 _; with_reducible refine Below.setCell ?_ j6 _; exact B3)
        | (refine Below.drew ?_; with_reducible refine Below.setCell ?_ j4 _; with_reducible refine Below.setCell ?_ j5 _; with_reducible refine Below.setCell ?_ j6 _; exact B3)
        | (refine Below.drew ?_; with_reducible refine Below.setCell ?_ j4 _; with_reducible refine Below.setCell ?_ j6 _; with_reducible refine Below.setCell ?_ j5 _; exact B3)
        | (refine blk_drew ?_; with_reducible (repeat' (first | exact y3 | exact T4 | exact T5 | exact T6 | refine Blk.other ?_ (by dsimp only; omega) _ | refine set_lv (a1 := a1) ?_ | refine set_ov (a4 := a4) ?_)); done)
    case rest =>
      clear y3 T4 T5 T6 hs3 B3 k4 k5 k6 c0 c1 c2 c3 c4 c5 p0 p1 p2 p3 p4 p5 q0 q1 q2 q3 q4 q5 r0 r1 r2 r3 r4 r5 f0 f3 g3 hV hV0 hU hU0 V U
      obtain ⟨U, V, ⟨u1, u2⟩, ⟨v1, v2⟩, hB3, y3, _, T4, T5, T6⟩ := hcut
      have hs3 := hB3.size
      have k3 := y3.lt
      have c0 := y3.cell 0; have c1 := y3.cell 1; have c2 := y3.cell 2; have c3 := y3.cell 3; have c4 := y3.cell 4; have c5 := y3.cell 5; (try unfold pcells at c0 c1 c2 c3 c4 c5); (dsimp only [List.getElem?_cons_zero, List.getElem?_cons_succ] at c0 c1 c2 c3 c4 c5)
      have qd1 := fun w => pdepth_ok a1 a2 a3 a4 a5 a6 w ⟨o1, o2, o3, o4, o5, o6, o7, o8⟩
      have qd2 := fun w => pdepth_ok U a2 a3 a4 a5 a6 w ⟨by omega, u2, o3, o4, o5, o6, o7, o8⟩
      have ql1 := fun w => plazy_ok a1 a2 a3 a4 a5 a6 w ⟨o1, o2, o3, o4, o5, o6, o7, o8⟩
      have ql2 := fun w => plazy_ok U a2 a3 a4 a5 a6 w ⟨by omega, u2, o3, o4, o5, o6, o7, o8⟩
      have qw := fun w => pwindow_p (⟨a1, a2, a3, a4, a5, a6⟩ : Prm) w
      have qb := fun w => pblock_p (⟨a1, a2, a3, a4, a5, a6⟩ : Prm) w
      have qx1 := fun w => pprefix_p (⟨a1, a2, a3, a4, a5, a6⟩ : Prm) w
      have qx2 := fun w => pprefix_p ⟨a1, a2, a3, V, a5, a6⟩ w
      have qx3 := fun w => pprefix_p ⟨a1, a2, a3, 9, a5, a6⟩ w
      unfold TwoPost at qw qb qx1 qx2 qx3
      unfold winR at qw
      unfold blkR at qb
      unfold preR at qx1 qx2 qx3
      rw [if_pos h] at qw qb qx1
      rw [if_pos (by unfold okP; dsimp only; exact decide_eq_true (by omega))] at qx2
      rw [if_pos (by unfold okP; dsimp only; exact decide_eq_true (by omega))] at qx3
      have qD := fun w => pdefault_p a1 w
      obtain ⟨⟨d1, d2, d3, d4, d5, d6⟩, hd, hd1, hd2⟩ := def_ok o1 o2
      rw [hd] at qD
      unfold PrmPost at qD
      dsimp only at qw qb qx1 qx2 qx3 qD hd1
      subst hd1
      have qC := fun w => pcheck_p d1 d2 d3 d4 d5 d6 w
      have hpk := okP_pchk ⟨d1, d2, d3, d4, d5, d6⟩
      dsimp only at hpk
      rw [hpk, if_pos hd2] at qC
      obtain ⟨e1, e2⟩ := depth_mono o1 u1 u2
      obtain ⟨e3, e4⟩ := lazy_mono u1
      obtain ⟨e5, e6, e7⟩ := pre_mono (W := a2) o7 v1 v2
      have e8 : blkT a2 ≤ winT a2 := by unfold blkT; omega
      have e9 : blkT a2 ≤ 131072 := by unfold blkT; omega
      rw [e7] at qx3
      clear e7 hpk hd2 hd h o1 o2 o3 o4 o5 o6 o7 o8 u1 u2 v1 v2
      obtain ⟨n1, hn1⟩ : ∃ x, depthT d1 = x := ⟨_, rfl⟩
      rw [hn1] at qd1 e1 e2
      clear hn1
      obtain ⟨n2, hn2⟩ : ∃ x, depthT U = x := ⟨_, rfl⟩
      rw [hn2] at qd2 e1
      clear hn2
      obtain ⟨n3, hn3⟩ : ∃ x, lazyT d1 = x := ⟨_, rfl⟩
      rw [hn3] at ql1 e3 e4
      clear hn3
      obtain ⟨n4, hn4⟩ : ∃ x, lazyT U = x := ⟨_, rfl⟩
      rw [hn4] at ql2 e3
      clear hn4
      obtain ⟨n5, hn5⟩ : ∃ x, winT a2 = x := ⟨_, rfl⟩
      rw [hn5] at qw e6 e8 qx3
      clear hn5
      obtain ⟨n6, hn6⟩ : ∃ x, blkT a2 = x := ⟨_, rfl⟩
      rw [hn6] at qb e8 e9
      clear hn6
      obtain ⟨n7, hn7⟩ : ∃ x, preT a2 a4 = x := ⟨_, rfl⟩
      rw [hn7] at qx1 e5
      clear hn7
      obtain ⟨n8, hn8⟩ : ∃ x, preT a2 V = x := ⟨_, rfl⟩
      rw [hn8] at qx2 e5 e6
      clear hn8
      have t1 : ¬ n2 < n1 := by omega
      have t2 : ¬ n4 < n3 := by omega
      have t3 : ¬ n1 < 1 := by omega
      have t4 : ¬ n3 < 0 := by omega
      go_wp2_with (first | (go_at_call 41; ((with_reducible refine (qd1 _).mono ?_); rintro en w4 ⟨rfl, hb4⟩; have hs4 := hb4.size; (try simp at hs4); have y4 := y3.later hb4; have T4_4 := T4.later hb4; have T5_4 := T5.later hb4; have T6_4 := T6.later hb4; have x4_0 := T4_4.cell 0; have x4_1 := T4_4.cell 1; have x4_2 := T4_4.cell 2; have x4_3 := T4_4.cell 3; have x4_4 := T4_4.cell 4; have x4_5 := T4_4.cell 5; (try unfold pcells at x4_0 x4_1 x4_2 x4_3 x4_4 x4_5); (dsimp only [List.getElem?_cons_zero, List.getElem?_cons_succ] at x4_0 x4_1 x4_2 x4_3 x4_4 x4_5))) | (go_at_call 41; ((with_reducible refine (qd2 _).mono ?_); rintro en w5 ⟨rfl, hb5⟩; have hs5 := hb5.size; (try simp at hs5); have y5 := y4.later hb5; have T4_5 := T4_4.later hb5; have T5_5 := T5_4.later hb5; have T6_5 := T6_4.later hb5; have x5_0 := y5.cell 0; have x5_1 := y5.cell 1; have x5_2 := y5.cell 2; have x5_3 := y5.cell 3; have x5_4 := y5.cell 4; have x5_5 := y5.cell 5; (try unfold pcells at x5_0 x5_1 x5_2 x5_3 x5_4 x5_5); (dsimp only [List.getElem?_cons_zero, List.getElem?_cons_succ] at x5_0 x5_1 x5_2 x5_3 x5_4 x5_5))) | (go_at_call 43; ((with_reducible refine (ql1 _).mono ?_); rintro en w6 ⟨rfl, hb6⟩; have hs6 := hb6.size; (try simp at hs6); have y6 := y5.later hb6; have T4_6 := T4_5.later hb6; have T5_6 := T5_5.later hb6; have T6_6 := T6_5.later hb6; have x6_0 := T4_6.cell 0; have x6_1 := T4_6.cell 1; have x6_2 := T4_6.cell 2; have x6_3 := T4_6.cell 3; have x6_4 := T4_6.cell 4; have x6_5 := T4_6.cell 5; (try unfold pcells at x6_0 x6_1 x6_2 x6_3 x6_4 x6_5); (dsimp only [List.getElem?_cons_zero, List.getElem?_cons_succ] at x6_0 x6_1 x6_2 x6_3 x6_4 x6_5))) | (go_at_call 43; ((with_reducible refine (ql2 _).mono ?_); rintro en w7 ⟨rfl, hb7⟩; have hs7 := hb7.size; (try simp at hs7); have y7 := y6.later hb7; have T4_7 := T4_6.later hb7; have T5_7 := T5_6.later hb7; have T6_7 := T6_6.later hb7; have x7_0 := y7.cell 0; have x7_1 := y7.cell 1; have x7_2 := y7.cell 2; have x7_3 := y7.cell 3; have x7_4 := y7.cell 4; have x7_5 := y7.cell 5; (try unfold pcells at x7_0 x7_1 x7_2 x7_3 x7_4 x7_5); (dsimp only [List.getElem?_cons_zero, List.getElem?_cons_succ] at x7_0 x7_1 x7_2 x7_3 x7_4 x7_5))) | (go_at_call 45; ((with_reducible refine (qw _).mono ?_); rintro en w8 ⟨rfl, hb8⟩; have hs8 := hb8.size; (try simp at hs8); have y8 := y7.later hb8; have T4_8 := T4_7.later hb8; have T5_8 := T5_7.later hb8; have T6_8 := T6_7.later hb8; have x8_0 := y8.cell 0; have x8_1 := y8.cell 1; have x8_2 := y8.cell 2; have x8_3 := y8.cell 3; have x8_4 := y8.cell 4; have x8_5 := y8.cell 5; (try unfold pcells at x8_0 x8_1 x8_2 x8_3 x8_4 x8_5); (dsimp only [List.getElem?_cons_zero, List.getElem?_cons_succ] at x8_0 x8_1 x8_2 x8_3 x8_4 x8_5))) | (go_at_call 47; ((with_reducible refine (qb _).mono ?_); rintro en w9 ⟨rfl, hb9⟩; have hs9 := hb9.size; (try simp at hs9); have y9 := y8.later hb9; have T4_9 := T4_8.later hb9; have T5_9 := T5_8.later hb9; have T6_9 := T6_8.later hb9; have x9_0 := y9.cell 0; have x9_1 := y9.cell 1; have x9_2 := y9.cell 2; have x9_3 := y9.cell 3; have x9_4 := y9.cell 4; have x9_5 := y9.cell 5; (try unfold pcells at x9_0 x9_1 x9_2 x9_3 x9_4 x9_5); (dsimp only [List.getElem?_cons_zero, List.getElem?_cons_succ] at x9_0 x9_1 x9_2 x9_3 x9_4 x9_5))) | (go_at_call 49; ((with_reducible refine (qx1 _).mono ?_); rintro en w10 ⟨rfl, hb10⟩; have hs10 := hb10.size; (try simp at hs10); have y10 := y9.later hb10; have T4_10 := T4_9.later hb10; have T5_10 := T5_9.later hb10; have T6_10 := T6_9.later hb10; have x10_0 := T5_10.cell 0; have x10_1 := T5_10.cell 1; have x10_2 := T5_10.cell 2; have x10_3 := T5_10.cell 3; have x10_4 := T5_10.cell 4; have x10_5 := T5_10.cell 5; (try unfold pcells at x10_0 x10_1 x10_2 x10_3 x10_4 x10_5); (dsimp only [List.getElem?_cons_zero, List.getElem?_cons_succ] at x10_0 x10_1 x10_2 x10_3 x10_4 x10_5))) | (go_at_call 49; ((with_reducible refine (qx2 _).mono ?_); rintro en w11 ⟨rfl, hb11⟩; have hs11 := hb11.size; (try simp at hs11); have y11 := y10.later hb11; have T4_11 := T4_10.later hb11; have T5_11 := T5_10.later hb11; have T6_11 := T6_10.later hb11; have x11_0 := T6_11.cell 0; have x11_1 := T6_11.cell 1; have x11_2 := T6_11.cell 2; have x11_3 := T6_11.cell 3; have x11_4 := T6_11.cell 4; have x11_5 := T6_11.cell 5; (try unfold pcells at x11_0 x11_1 x11_2 x11_3 x11_4 x11_5); (dsimp only [List.getElem?_cons_zero, List.getElem?_cons_succ] at x11_0 x11_1 x11_2 x11_3 x11_4 x11_5))) | (go_at_call 49; ((with_reducible refine (qx3 _).mono ?_); rintro en w12 ⟨rfl, hb12⟩; have hs12 := hb12.size; (try simp at hs12); have y12 := y11.later hb12; have T4_12 := T4_11.later hb12; have T5_12 := T5_11.later hb12; have T6_12 := T6_11.later hb12; have x12_0 := y12.cell 0; have x12_1 := y12.cell 1; have x12_2 := y12.cell 2; have x12_3 := y12.cell 3; have x12_4 := y12.cell 4; have x12_5 := y12.cell 5; (try unfold pcells at x12_0 x12_1 x12_2 x12_3 x12_4 x12_5); (dsimp only [List.getElem?_cons_zero, List.getElem?_cons_succ] at x12_0 x12_1 x12_2 x12_3 x12_4 x12_5))) | (go_at_call 53; ((with_reducible refine (qD _).mono ?_); rintro en w13 ⟨rfl, hb13⟩; have hs13 := hb13.size; (try simp at hs13); have y13 := y12.later hb13; have T4_13 := T4_12.later hb13; have T5_13 := T5_12.later hb13; have T6_13 := T6_12.later hb13; have x13_0 := y13.cell 0; have x13_1 := y13.cell 1; have x13_2 := y13.cell 2; have x13_3 := y13.cell 3; have x13_4 := y13.cell 4; have x13_5 := y13.cell 5; (try unfold pcells at x13_0 x13_1 x13_2 x13_3 x13_4 x13_5); (dsimp only [List.getElem?_cons_zero, List.getElem?_cons_succ] at x13_0 x13_1 x13_2 x13_3 x13_4 x13_5); have z1 : H < w13.heap.size := y13.lt; have z2 : ¬ H = w13.heap.size := (by omega); have z3 : ¬ w13.heap.size = H := (by omega))) | (go_at_call 55; (with_reducible refine (qC _).mono ?_); rintro en w2 ⟨rfl, hb2⟩; have hs2 := hb2.size; (try simp at hs2)))
      go_light
      refine bodyPost_ret (v := .bool true) (by simp [results, Tryd.results14, go_sem, *]) rfl ⟨rfl, ?_⟩
      rw [HH.out]
      repeat' (first | with_reducible exact Below.refl _ _ | with_reducible refine Below.drew ?_ | with_reducible refine below_drewN ?_ _ | with_reducible refine Below.alloc ?_ (by first | omega | (simp <;> omega)) _ | with_reducible refine Below.setCell ?_ (by first | omega | (dsimp only; omega) | (simp <;> omega)) _ | with_reducible refine Below.trans ?_ (Below.mono (by assumption) (by first | omega | (simp <;> omega))))
theorem paramsGrow_t (a1 a2 a3 a4 : Int) (a5 a6 : Bool) (w : World) (hE : PEnv w) : Calls Tryd.prog 14 #[.agg #[.int .i64 a1, .int .i64 a2, .int .i64 a3, .int .i64 a4, .bool a5, .bool a6]] w fun e w' => e = .returned (.bool true) ∧ Below w.heap.size w w' := by
  by_cases h : okP (⟨a1, a2, a3, a4, a5, a6⟩ : Prm) = true
  · exact paramsGrow_1 a1 a2 a3 a4 a5 a6 h w hE
  · exact paramsGrow_no a1 a2 a3 a4 a5 a6 h w hE
end Go.Proofs.YtmblpmaelglnpaaDoor
