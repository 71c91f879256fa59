/-
  A text of parameters is read: the program's Parse, walked.
-/
import Derived.Test.YtmblpmaelglnpaaDoorRows
import Derived.Test.YtmblpmaelglnpaaDoorPrmWords
import Derived.Test.YtmblpmaelglnpaaDoorPrmText
import Derived.Test.YtmblpmaelglnpaaDoorGBase
import Derived.Deep.Light
import Derived.Shelf.Abstract
import Derived.Shelf.RegionOpen
import Derived.OwnWalkIn
import Derived.TacticsInMore
import Derived.LoopNIn
import Derived.LoopIn
import Derived.Outline
import Derived.IntWalk
import Derived.WalkMore
namespace Go.Proofs.YtmblpmaelglnpaaDoor
open Go.RowKit
set_option linter.unusedSimpArgs false
set_option linter.unusedVariables false
open Go.Shelf
attribute [local go_sem] Oper.semAt_some

/-- Parameters and an error. -/
def PrmPost (R : Prm × Int) (w : World) (e : Ending) (w' : World) : Prop := e = .returned (.tuple #[.agg #[.int .i64 R.1.lv, .int .i64 R.1.wi, .int .i64 R.1.jo, .int .i64 R.1.ov, .bool R.1.sy, .bool R.1.ch], .int .i64 R.2]) ∧ Below w.heap.size w w'
/-- The cells of parameters. -/
def pcells (p : Prm) : List Value := [.int .i64 p.lv, .int .i64 p.wi, .int .i64 p.jo, .int .i64 p.ov, .bool p.sy, .bool p.ch]
theorem Blk.old {S : Nat → Prop} {L : Nat} {X Y : World} {B : Nat} {t : TypeId} {vs : List Value} (h : Blk X B t vs) (hb : OldBut S L X Y) (hl : B < L) (hn : ¬ S B) : Blk Y B t vs := hb.block _ _ hl hn h
theorem spl_sub : ∀ (l : List UInt8) (x : List UInt8), x ∈ spl l → x.length ≤ l.length := by
  intro l
  induction l with
  | nil => intro x h; simp [spl] at h; subst h; simp
  | cons c l ih =>
    intro x h
    unfold spl at h
    split at h
    · rcases List.mem_cons.1 h with rfl | h
      · simp
      · have := ih x h; simp; omega
    · split at h
      · rename_i hx; exact absurd hx (spl_ne l)
      · rename_i y ys hx
        rcases List.mem_cons.1 h with rfl | h
        · have := ih y (by rw [hx]; simp); simp; omega
        · have := ih x (by rw [hx]; simp [h]); simp; omega
theorem pcs_get (s : ByteArray) (i : Nat) (hi : i < npc s) : (pcs s i).data.toList = (spl s.data.toList).getD i [] ∧ (pcs s i).size ≤ s.size ∧ (spl s.data.toList).drop i = (spl s.data.toList).getD i [] :: (spl s.data.toList).drop (i + 1) := by
  have e : (spl s.data.toList).getD i [] = (spl s.data.toList)[i]'hi := by rw [List.getD_eq_getElem?_getD, List.getElem?_eq_getElem hi]; rfl
  refine ⟨by unfold pcs; simp, ?_, ?_⟩
  · have := spl_sub s.data.toList ((spl s.data.toList)[i]'hi) (List.getElem_mem hi)
    unfold pcs
    rw [e]
    exact this
  · rw [e, List.drop_eq_getElem_cons hi]
theorem beq_dec (a b : List UInt8) : (a == b) = decide (a = b) := by
  cases h : decide (a = b) with
  | true => have := of_decide_eq_true h; rw [this]; simp
  | false => have := of_decide_eq_false h; simpa using this
theorem Blk.but2 {S : Nat → Prop} {X Y : World} {B : Nat} {t : TypeId} {vs : List Value} (h : Blk X B t vs) (hb : But S X Y) (hn : ¬ S B) : Blk Y B t vs := hb.block _ _ hn h
theorem round_end {H N : Nat} {S : Nat → Prop} {w W2 w1 Y : World} (hS : ∀ k, S k → k < H + 3 ∧ H ≤ k) (hz : N = H + 4) (hb1 : Below W2.heap.size W2 w1) (hB : But S w1 Y) (hw : Below H w W2) (hH : H ≤ W2.heap.size) :
    KeepsFrom N W2 Y ∧ Stay (fun k => k = H + 3 ∨ N + 2 ≤ k) W2 Y ∧ Below H w Y := by
  have h1 := hb1.size
  have key : ∀ (k : Nat) (o : Obj), H + 3 ≤ k → W2.heap[k]? = some o → Y.heap[k]? = some o := fun k o hk ho => hB.block k o (fun h => by have := hS k h; omega) ((hb1.block k (Array.getElem?_eq_some_iff.1 ho).1).trans ho)
  refine ⟨⟨Nat.le_trans h1 hB.size, fun k o hk ho _ => key k o (by omega) ho⟩, fun k o hk ho => key k o (by omega) ho, ?_⟩
  exact But.below hB (hw.trans (hb1.mono hH)) (fun k hk h => by have := hS k h; omega) (by omega)
theorem blk_put {X : World} {b : Nat} {t : TypeId} {p : Prm} (h : Blk X b t (pcells p)) (q : Prm) : Blk ((((((X.setCell ⟨b, 0, none⟩ (.int .i64 q.lv)).setCell ⟨b, 1, none⟩ (.int .i64 q.wi)).setCell ⟨b, 2, none⟩ (.int .i64 q.jo)).setCell ⟨b, 3, none⟩ (.int .i64 q.ov)).setCell ⟨b, 4, none⟩ (.bool q.sy)).setCell ⟨b, 5, none⟩ (.bool q.ch)) b t (pcells q) :=
  (((((h.set 0 _).set 1 _).set 2 _).set 3 _).set 4 _).set 5 _
set_option maxRecDepth 100000 in
set_option maxHeartbeats 8000000 in
theorem pparse_p (s : ByteArray) (hs : s.size ≤ 1048576) (w : World) (hE : PEnv w) : Calls Tryd.prog 39 #[.string s] w (PrmPost (pparse s.data.toList) w) := by
  have hnp : npc s ≤ 1048577 := by
    have := spl_len s.data.toList
    have h2 : s.data.toList.length = s.size := rfl
    unfold npc
    omega
  refine calls_of_marks Tryd.func39 rfl ?_
  simp only [Tryd.ntmps39, List.size_toArray, List.length_cons, List.length_nil, Nat.reduceAdd, Nat.reduceSub, Array.replicate_succ, Array.replicate_zero, List.push_toArray, List.append_toArray, List.nil_append, List.cons_append]
  go_wp2_with (go_in)
  obtain ⟨H, hH⟩ : ∃ H, w.heap.size = H := ⟨_, rfl⟩
  obtain ⟨W0, hW0⟩ : ∃ W0, ((((w.alloc (.cells #[.int .i64 0, .int .i64 0, .int .i64 0, .int .i64 0, .bool false, .bool false] 58)).alloc (.cells #[.int .i64 0] 27)).alloc (.cells #[.int .i64 0, .int .i64 0, .int .i64 0, .int .i64 0, .bool false, .bool false] 58)).alloc (.cells #[.string s] 9)) = W0 := ⟨_, rfl⟩
  have w0b : Below H w W0 := by
    rw [← hW0, ← hH]
    repeat' (first | with_reducible exact Below.refl _ _ | with_reducible refine Below.drew ?_ | with_reducible refine below_drewN ?_ _ | with_reducible refine Below.alloc ?_ (by first | omega | (simp <;> omega)) _ | with_reducible refine Below.setCell ?_ (by first | omega | (dsimp only; omega) | (simp <;> omega)) _ | with_reducible refine Below.trans ?_ (Below.mono (by assumption) (by first | omega | (simp <;> omega))))
  have w0s : W0.heap.size = H + 4 := by rw [← hW0, ← hH]; simp
  have k1 : Blk W0 H 58 (pcells prm0) := by rw [← hW0, ← hH]; exact (((Blk.new w _ _).alloc _).alloc _).alloc _
  have k2 : Blk W0 (H + 1) 27 [.int .i64 0] := by rw [← hW0, ← hH]; have := ((Blk.new (w.alloc (.cells #[.int .i64 0, .int .i64 0, .int .i64 0, .int .i64 0, .bool false, .bool false] 58)) 27 #[.int .i64 0]).alloc (.cells #[.int .i64 0, .int .i64 0, .int .i64 0, .int .i64 0, .bool false, .bool false] 58)).alloc (.cells #[.string s] 9); rwa [World.size_alloc] at this
  have k3 : Blk W0 (H + 2) 58 (pcells prm0) := by rw [← hW0, ← hH]; have := (Blk.new ((w.alloc (.cells #[.int .i64 0, .int .i64 0, .int .i64 0, .int .i64 0, .bool false, .bool false] 58)).alloc (.cells #[.int .i64 0] 27)) 58 #[.int .i64 0, .int .i64 0, .int .i64 0, .int .i64 0, .bool false, .bool false]).alloc (.cells #[.string s] 9); rwa [World.size_alloc, World.size_alloc] at this
  have k4 : W0.cell? ⟨H + 3, 0, none⟩ = some (.string s) := by rw [← hW0, ← hH]; simp [go_sem]
  have hE2 : ∀ X, Below H w X → PEnv X := fun X hb => hE.later (by rw [hH]; exact hb)
  rw [hW0]
  unfold PrmPost
  (try simp only [hH])
  simp only [Nat.add_assoc, Nat.reduceAdd]
  clear hW0 hE
  refine wp_rangeO_pure (gf := 105) (lb := #[.pointer (some ⟨H + 3, 0, none⟩)]) rfl (enters_of Tryd.func105 (by kernel_rfl) rfl) (fun k => k = H + 3) (fun k h => by omega) (npc s) (fun i => #[.int .i64 (i : Int), .string (pcs s i)]) (fun _ => rfl)
    (fun i X => ∃ p, Hid (foldW i p ((spl s.data.toList).drop i) = foldW 0 prm0 (spl s.data.toList)) ∧ Hid (inR p) ∧ Hid (i ≤ 8 → p.sy = false ∧ p.ch = false) ∧ Blk X (H + 2) 58 (pcells p) ∧ Blk X H 58 (pcells prm0) ∧ Blk X (H + 1) 27 [.int .i64 0] ∧ Below H w X)
    (fun c X => c = .ret ∧ Hid (foldW 0 prm0 (spl s.data.toList) = none) ∧ Blk X H 58 (pcells prm0) ∧ Blk X (H + 1) 27 [.int .i64 3] ∧ Below H w X) ?hI ?hIx ⟨prm0, Lib.hid rfl, Lib.hid (by unfold inR prm0; dsimp only; omega), Lib.hid (fun _ => ⟨rfl, rfl⟩), k3, k1, k2, w0b⟩ ?hround ?hiter ?hdone ?hstop
  case hI =>
    rintro i X Y hk ⟨p, y1, y2, y3, y4, y5, y6, y7⟩
    have hz := y7.size
    exact ⟨p, y1, y2, y3, y4.old hk (by omega) (by omega), y5.old hk (by omega) (by omega), y6.old hk (by omega) (by omega), hk.below y7 (by omega) (fun k h => by omega) (by omega)⟩
  case hIx =>
    rintro c X Y hk ⟨y0, y1, y2, y3, y4⟩
    have hz := y4.size
    exact ⟨y0, y1, y2.old hk (by omega) (by omega), y3.old hk (by omega) (by omega), hk.below y4 (by omega) (fun k h => by omega) (by omega)⟩
  case hround =>
    intro l' i X hi hI hl'
    obtain ⟨e1, e2, e3⟩ := pcs_get s i hi
    have qA := fun Y hE => atoi_p (pcs s i) (by omega) Y hE
    rw [e1] at qA
    clear hI k1 k2 k3 k4
    gi_wp2
    refine ⟨trivial, ?_⟩
    rintro W2 hl2 ⟨p, y1, y2, y3, y4, y5, y6, y7⟩
    rw [e3] at y1
    obtain ⟨L, hL⟩ : ∃ L, (spl s.data.toList).getD i [] = L := ⟨_, rfl⟩
    rw [hL] at qA y1 e1
    obtain ⟨u, hu⟩ : ∃ u, pcs s i = u := ⟨_, rfl⟩
    rw [hu] at qA e1 ⊢
    have y0 := y1.out
    rw [foldW] at y0
    have hib : (i : Int) ≤ 1048577 := by omega
    clear e2 e3 hL hu y1
    obtain ⟨v, hv⟩ : ∃ v, anum L = v := ⟨_, rfl⟩
    rw [hv] at qA
    have hW2 : H ≤ W2.heap.size := by have := y7.size; omega
    gi_wp2
    refine ⟨trivial, rfl, (CallsIn.inRound l' (callsIn_wide.2 (qA _ (hE2 _ y7)))).mono ?_⟩
    rintro e w1 ⟨ev, rfl, hb1⟩
    have hs1 := hb1.size
    have z4 := y4.later hb1
    have z5 := y5.later hb1
    have z6 := y6.later hb1
    have qW := fun w => within_s v 0 9999999 w
    have hokW : okW L = decide (0 ≤ v ∧ v ≤ 9999999) := by unfold okW; rw [hv]
    by_cases hok : 0 ≤ v ∧ v ≤ 9999999
    · have HOK := Lib.hid hok
      rw [decide_eq_true hok] at qW hokW
      have HOW := Lib.hid hokW
      rw [if_pos hokW] at y0
      have Y0 := Lib.hid y0
      obtain ⟨a, b, c, d, sy, ch⟩ := p
      have c4 : w1.cell? ⟨H + 2, 4, none⟩ = some (.bool sy) := z4.cell 4
      have c5 : w1.cell? ⟨H + 2, 5, none⟩ = some (.bool ch) := z4.cell 5
      have f0 := z4.frozen 0
      have f1 := z4.frozen 1
      have f2 := z4.frozen 2
      have f3 := z4.frozen 3
      have f4 := z4.frozen 4
      have f5 := z4.frozen 5
      have d0 : w1.cell? ⟨H + 2, 0, none⟩ = some (.int .i64 a) := z4.cell 0
      have d1 : w1.cell? ⟨H + 2, 1, none⟩ = some (.int .i64 b) := z4.cell 1
      have d2 : w1.cell? ⟨H + 2, 2, none⟩ = some (.int .i64 c) := z4.cell 2
      have d3 : w1.cell? ⟨H + 2, 3, none⟩ = some (.int .i64 d) := z4.cell 3
      have HV := Lib.hid hv
      clear hok hokW y0 y4 y5 y6 qA hE2 hv
      rcases (show i = 1 ∨ i = 3 ∨ i = 5 ∨ i = 7 ∨ (i < 8 ∧ i ≠ 1 ∧ i ≠ 3 ∧ i ≠ 5 ∧ i ≠ 7) ∨ i = 8 ∨ 8 < i by omega) with rfl | rfl | rfl | rfl | ⟨g8, g1, g3, g5, g7⟩ | rfl | g9
      · obtain ⟨rfl, rfl⟩ := y3.out (by omega)
        gi_wp2
        refine ⟨trivial, rfl, (CallsIn.inRound l' (callsIn_wide.2 (qW _))).mono ?_⟩
        rintro e w3 ⟨rfl, rfl⟩
        gi_wp2
        obtain ⟨Y, hY⟩ : ∃ Y, (((w3.setCell ⟨H + 2, 0, none⟩ (.int .i64 v)).setCell ⟨H + 2, 4, none⟩ (.bool false)).setCell ⟨H + 2, 5, none⟩ (.bool false)) = Y := ⟨_, rfl⟩
        have hB : But (fun k => k = H + 2) w3 Y := by rw [← hY]; exact (((But.setCell (S := fun k => k = H + 2) _ _ rfl).trans (But.setCell (S := fun k => k = H + 2) _ _ rfl)).trans (But.setCell (S := fun k => k = H + 2) _ _ rfl))
        have hK : Blk Y (H + 2) 58 (pcells ⟨v, b, c, d, false, false⟩) := by rw [← hY]; exact (((z4.set 0 _).set 4 _).set 5 _)
        rw [hY]
        have hstep : stepW 1 L ⟨a, b, c, d, false, false⟩ = ⟨v, b, c, d, false, false⟩ := by unfold stepW; simp [HV.out]
        have hin := stepW_in (i := 1) HOW.out y2.out
        rw [hstep] at hin
        have Y1 := Y0.out
        rw [hstep] at Y1
        obtain ⟨r1, r2, r3⟩ := round_end (N := W0.heap.size) (fun k hk => by omega) w0s hb1 hB y7 hW2
        exact ⟨r1, ⟨⟨v, b, c, d, false, false⟩, Lib.hid Y1, Lib.hid hin, Lib.hid (fun h => ⟨rfl, rfl⟩), hK, z5.but2 hB (by omega), z6.but2 hB (by omega), r3⟩, r2⟩
      · obtain ⟨rfl, rfl⟩ := y3.out (by omega)
        gi_wp2
        refine ⟨trivial, rfl, (CallsIn.inRound l' (callsIn_wide.2 (qW _))).mono ?_⟩
        rintro e w3 ⟨rfl, rfl⟩
        gi_wp2
        obtain ⟨Y, hY⟩ : ∃ Y, (((w3.setCell ⟨H + 2, 1, none⟩ (.int .i64 v)).setCell ⟨H + 2, 4, none⟩ (.bool false)).setCell ⟨H + 2, 5, none⟩ (.bool false)) = Y := ⟨_, rfl⟩
        have hB : But (fun k => k = H + 2) w3 Y := by rw [← hY]; exact (((But.setCell (S := fun k => k = H + 2) _ _ rfl).trans (But.setCell (S := fun k => k = H + 2) _ _ rfl)).trans (But.setCell (S := fun k => k = H + 2) _ _ rfl))
        have hK : Blk Y (H + 2) 58 (pcells ⟨a, v, c, d, false, false⟩) := by rw [← hY]; exact (((z4.set 1 _).set 4 _).set 5 _)
        rw [hY]
        have hstep : stepW 3 L ⟨a, b, c, d, false, false⟩ = ⟨a, v, c, d, false, false⟩ := by unfold stepW; simp [HV.out]
        have hin := stepW_in (i := 3) HOW.out y2.out
        rw [hstep] at hin
        have Y1 := Y0.out
        rw [hstep] at Y1
        obtain ⟨r1, r2, r3⟩ := round_end (N := W0.heap.size) (fun k hk => by omega) w0s hb1 hB y7 hW2
        exact ⟨r1, ⟨⟨a, v, c, d, false, false⟩, Lib.hid Y1, Lib.hid hin, Lib.hid (fun h => ⟨rfl, rfl⟩), hK, z5.but2 hB (by omega), z6.but2 hB (by omega), r3⟩, r2⟩
      · obtain ⟨rfl, rfl⟩ := y3.out (by omega)
        gi_wp2
        refine ⟨trivial, rfl, (CallsIn.inRound l' (callsIn_wide.2 (qW _))).mono ?_⟩
        rintro e w3 ⟨rfl, rfl⟩
        gi_wp2
        obtain ⟨Y, hY⟩ : ∃ Y, (((w3.setCell ⟨H + 2, 2, none⟩ (.int .i64 v)).setCell ⟨H + 2, 4, none⟩ (.bool false)).setCell ⟨H + 2, 5, none⟩ (.bool false)) = Y := ⟨_, rfl⟩
        have hB : But (fun k => k = H + 2) w3 Y := by rw [← hY]; exact (((But.setCell (S := fun k => k = H + 2) _ _ rfl).trans (But.setCell (S := fun k => k = H + 2) _ _ rfl)).trans (But.setCell (S := fun k => k = H + 2) _ _ rfl))
        have hK : Blk Y (H + 2) 58 (pcells ⟨a, b, v, d, false, false⟩) := by rw [← hY]; exact (((z4.set 2 _).set 4 _).set 5 _)
        rw [hY]
        have hstep : stepW 5 L ⟨a, b, c, d, false, false⟩ = ⟨a, b, v, d, false, false⟩ := by unfold stepW; simp [HV.out]
        have hin := stepW_in (i := 5) HOW.out y2.out
        rw [hstep] at hin
        have Y1 := Y0.out
        rw [hstep] at Y1
        obtain ⟨r1, r2, r3⟩ := round_end (N := W0.heap.size) (fun k hk => by omega) w0s hb1 hB y7 hW2
        exact ⟨r1, ⟨⟨a, b, v, d, false, false⟩, Lib.hid Y1, Lib.hid hin, Lib.hid (fun h => ⟨rfl, rfl⟩), hK, z5.but2 hB (by omega), z6.but2 hB (by omega), r3⟩, r2⟩
      · obtain ⟨rfl, rfl⟩ := y3.out (by omega)
        gi_wp2
        refine ⟨trivial, rfl, (CallsIn.inRound l' (callsIn_wide.2 (qW _))).mono ?_⟩
        rintro e w3 ⟨rfl, rfl⟩
        gi_wp2
        obtain ⟨Y, hY⟩ : ∃ Y, (((w3.setCell ⟨H + 2, 3, none⟩ (.int .i64 v)).setCell ⟨H + 2, 4, none⟩ (.bool false)).setCell ⟨H + 2, 5, none⟩ (.bool false)) = Y := ⟨_, rfl⟩
        have hB : But (fun k => k = H + 2) w3 Y := by rw [← hY]; exact (((But.setCell (S := fun k => k = H + 2) _ _ rfl).trans (But.setCell (S := fun k => k = H + 2) _ _ rfl)).trans (But.setCell (S := fun k => k = H + 2) _ _ rfl))
        have hK : Blk Y (H + 2) 58 (pcells ⟨a, b, c, v, false, false⟩) := by rw [← hY]; exact (((z4.set 3 _).set 4 _).set 5 _)
        rw [hY]
        have hstep : stepW 7 L ⟨a, b, c, d, false, false⟩ = ⟨a, b, c, v, false, false⟩ := by unfold stepW; simp [HV.out]
        have hin := stepW_in (i := 7) HOW.out y2.out
        rw [hstep] at hin
        have Y1 := Y0.out
        rw [hstep] at Y1
        obtain ⟨r1, r2, r3⟩ := round_end (N := W0.heap.size) (fun k hk => by omega) w0s hb1 hB y7 hW2
        exact ⟨r1, ⟨⟨a, b, c, v, false, false⟩, Lib.hid Y1, Lib.hid hin, Lib.hid (fun h => ⟨rfl, rfl⟩), hK, z5.but2 hB (by omega), z6.but2 hB (by omega), r3⟩, r2⟩
      · obtain ⟨rfl, rfl⟩ := y3.out (by omega)
        have n1 : ((i : Int) == 1) = false := by simp; omega
        have n3 : ((i : Int) == 3) = false := by simp; omega
        have n5 : ((i : Int) == 5) = false := by simp; omega
        have n7 : ((i : Int) == 7) = false := by simp; omega
        have n8 : ((i : Int) == 8) = false := by simp; omega
        have n9 : decide ((8 : Int) ≤ (i : Int)) = false := by simp; omega
        have n10 : decide (8 ≤ i) = false := by simp; omega
        have G8 := Lib.hid (And.intro g8 (And.intro g1 (And.intro g3 (And.intro g5 g7))))
        clear g8 g1 g3 g5 g7
        gi_wp2
        refine ⟨trivial, rfl, (CallsIn.inRound l' (callsIn_wide.2 (qW _))).mono ?_⟩
        rintro e w3 ⟨rfl, rfl⟩
        gi_wp2
        obtain ⟨Y, hY⟩ : ∃ Y, ((w3.setCell ⟨H + 2, 4, none⟩ (.bool false)).setCell ⟨H + 2, 5, none⟩ (.bool false)) = Y := ⟨_, rfl⟩
        have hB : But (fun k => k = H + 2) w3 Y := by rw [← hY]; exact ((But.setCell (S := fun k => k = H + 2) _ _ rfl).trans (But.setCell (S := fun k => k = H + 2) _ _ rfl))
        have hK : Blk Y (H + 2) 58 (pcells ⟨a, b, c, d, false, false⟩) := by rw [← hY]; exact ((z4.set 4 _).set 5 _)
        rw [hY]
        have hstep : stepW i L ⟨a, b, c, d, false, false⟩ = ⟨a, b, c, d, false, false⟩ := by unfold stepW; obtain ⟨g8, g1, g3, g5, g7⟩ := G8.out; simp [g1, g3, g5, g7, show ¬ i = 8 by omega, show ¬ 8 ≤ i by omega]
        have hin := stepW_in (i := i) HOW.out y2.out
        rw [hstep] at hin
        have Y1 := Y0.out
        rw [hstep] at Y1
        obtain ⟨r1, r2, r3⟩ := round_end (N := W0.heap.size) (fun k hk => by omega) w0s hb1 hB y7 hW2
        exact ⟨r1, ⟨⟨a, b, c, d, false, false⟩, Lib.hid Y1, Lib.hid hin, Lib.hid (fun h => ⟨rfl, rfl⟩), hK, z5.but2 hB (by omega), z6.but2 hB (by omega), r3⟩, r2⟩
      · obtain ⟨rfl, rfl⟩ := y3.out (by omega)
        have t1 : (u.toList == [115, 121, 110, 99]) = decide (L = wSy) := by rw [ByteArray.toList_eq, e1]; exact beq_dec _ _
        have t2 : (u.toList == [99, 104, 101, 99, 107]) = decide (L = wCh) := by rw [ByteArray.toList_eq, e1]; exact beq_dec _ _
        have T1 := Lib.hid t1
        have T2 := Lib.hid t2
        clear t1 t2
        gi_wp2
        refine ⟨trivial, rfl, (CallsIn.inRound l' (callsIn_wide.2 (qW _))).mono ?_⟩
        rintro e w3 ⟨rfl, rfl⟩
        gi_wp2
        obtain ⟨Y, hY⟩ : ∃ Y, ((w3.setCell ⟨H + 2, 4, none⟩ (.bool (u.toList == [115, 121, 110, 99]))).setCell ⟨H + 2, 5, none⟩ (.bool (u.toList == [99, 104, 101, 99, 107]))) = Y := ⟨_, rfl⟩
        have hB : But (fun k => k = H + 2) w3 Y := by rw [← hY]; exact ((But.setCell (S := fun k => k = H + 2) _ _ rfl).trans (But.setCell (S := fun k => k = H + 2) _ _ rfl))
        have hK : Blk Y (H + 2) 58 (pcells ⟨a, b, c, d, u.toList == [115, 121, 110, 99], u.toList == [99, 104, 101, 99, 107]⟩) := by rw [← hY]; exact ((z4.set 4 _).set 5 _)
        rw [hY]
        have hstep : stepW 8 L ⟨a, b, c, d, false, false⟩ = ⟨a, b, c, d, u.toList == [115, 121, 110, 99], u.toList == [99, 104, 101, 99, 107]⟩ := by rw [T1.out, T2.out]; unfold stepW; simp
        have hin := stepW_in (i := 8) HOW.out y2.out
        rw [hstep] at hin
        have Y1 := Y0.out
        rw [hstep] at Y1
        obtain ⟨r1, r2, r3⟩ := round_end (N := W0.heap.size) (fun k hk => by omega) w0s hb1 hB y7 hW2
        exact ⟨r1, ⟨⟨a, b, c, d, u.toList == [115, 121, 110, 99], u.toList == [99, 104, 101, 99, 107]⟩, Lib.hid Y1, Lib.hid hin, Lib.hid (fun h => by omega), hK, z5.but2 hB (by omega), z6.but2 hB (by omega), r3⟩, r2⟩
      · have n1 : ((i : Int) == 1) = false := by simp; omega
        have n3 : ((i : Int) == 3) = false := by simp; omega
        have n5 : ((i : Int) == 5) = false := by simp; omega
        have n7 : ((i : Int) == 7) = false := by simp; omega
        have n8 : ((i : Int) == 8) = false := by simp; omega
        have n9 : decide ((8 : Int) ≤ (i : Int)) = true := by simp; omega
        have n10 : decide (8 ≤ i) = true := by simp; omega
        have t2 : (u.toList == [99, 104, 101, 99, 107]) = decide (L = wCh) := by rw [ByteArray.toList_eq, e1]; exact beq_dec _ _
        have T2 := Lib.hid t2
        have G9 := Lib.hid g9
        clear t2 g9
        cases sy <;> cases ch
        · gi_wp2
          refine ⟨trivial, rfl, (CallsIn.inRound l' (callsIn_wide.2 (qW _))).mono ?_⟩
          rintro e w3 ⟨rfl, rfl⟩
          gi_wp2
          obtain ⟨Y, hY⟩ : ∃ Y, ((w3.setCell ⟨H + 2, 4, none⟩ (.bool false)).setCell ⟨H + 2, 5, none⟩ (.bool (u.toList == [99, 104, 101, 99, 107]))) = Y := ⟨_, rfl⟩
          have hB : But (fun k => k = H + 2) w3 Y := by rw [← hY]; exact ((But.setCell (S := fun k => k = H + 2) _ _ rfl).trans (But.setCell (S := fun k => k = H + 2) _ _ rfl))
          have hK : Blk Y (H + 2) 58 (pcells ⟨a, b, c, d, false, u.toList == [99, 104, 101, 99, 107]⟩) := by rw [← hY]; exact ((z4.set 4 _).set 5 _)
          rw [hY]
          have hstep : stepW i L ⟨a, b, c, d, false, false⟩ = ⟨a, b, c, d, false, u.toList == [99, 104, 101, 99, 107]⟩ := by rw [T2.out]; unfold stepW; have g9 := G9.out; simp [show ¬ i = 1 by omega, show ¬ i = 3 by omega, show ¬ i = 5 by omega, show ¬ i = 7 by omega, show ¬ i = 8 by omega, show 8 ≤ i by omega]
          have hin := stepW_in (i := i) HOW.out y2.out
          rw [hstep] at hin
          have Y1 := Y0.out
          rw [hstep] at Y1
          obtain ⟨r1, r2, r3⟩ := round_end (N := W0.heap.size) (fun k hk => by omega) w0s hb1 hB y7 hW2
          exact ⟨r1, ⟨⟨a, b, c, d, false, u.toList == [99, 104, 101, 99, 107]⟩, Lib.hid Y1, Lib.hid hin, Lib.hid (fun h => absurd G9.out (by omega)), hK, z5.but2 hB (by omega), z6.but2 hB (by omega), r3⟩, r2⟩
        · gi_wp2
          refine ⟨trivial, rfl, (CallsIn.inRound l' (callsIn_wide.2 (qW _))).mono ?_⟩
          rintro e w3 ⟨rfl, rfl⟩
          gi_wp2
          obtain ⟨Y, hY⟩ : ∃ Y, ((w3.setCell ⟨H + 2, 4, none⟩ (.bool false)).setCell ⟨H + 2, 5, none⟩ (.bool true)) = Y := ⟨_, rfl⟩
          have hB : But (fun k => k = H + 2) w3 Y := by rw [← hY]; exact ((But.setCell (S := fun k => k = H + 2) _ _ rfl).trans (But.setCell (S := fun k => k = H + 2) _ _ rfl))
          have hK : Blk Y (H + 2) 58 (pcells ⟨a, b, c, d, false, true⟩) := by rw [← hY]; exact ((z4.set 4 _).set 5 _)
          rw [hY]
          have hstep : stepW i L ⟨a, b, c, d, false, true⟩ = ⟨a, b, c, d, false, true⟩ := by unfold stepW; have g9 := G9.out; simp [show ¬ i = 1 by omega, show ¬ i = 3 by omega, show ¬ i = 5 by omega, show ¬ i = 7 by omega, show ¬ i = 8 by omega, show 8 ≤ i by omega]
          have hin := stepW_in (i := i) HOW.out y2.out
          rw [hstep] at hin
          have Y1 := Y0.out
          rw [hstep] at Y1
          obtain ⟨r1, r2, r3⟩ := round_end (N := W0.heap.size) (fun k hk => by omega) w0s hb1 hB y7 hW2
          exact ⟨r1, ⟨⟨a, b, c, d, false, true⟩, Lib.hid Y1, Lib.hid hin, Lib.hid (fun h => absurd G9.out (by omega)), hK, z5.but2 hB (by omega), z6.but2 hB (by omega), r3⟩, r2⟩
        · gi_wp2
          refine ⟨trivial, rfl, (CallsIn.inRound l' (callsIn_wide.2 (qW _))).mono ?_⟩
          rintro e w3 ⟨rfl, rfl⟩
          gi_wp2
          obtain ⟨Y, hY⟩ : ∃ Y, ((w3.setCell ⟨H + 2, 4, none⟩ (.bool true)).setCell ⟨H + 2, 5, none⟩ (.bool (u.toList == [99, 104, 101, 99, 107]))) = Y := ⟨_, rfl⟩
          have hB : But (fun k => k = H + 2) w3 Y := by rw [← hY]; exact ((But.setCell (S := fun k => k = H + 2) _ _ rfl).trans (But.setCell (S := fun k => k = H + 2) _ _ rfl))
          have hK : Blk Y (H + 2) 58 (pcells ⟨a, b, c, d, true, u.toList == [99, 104, 101, 99, 107]⟩) := by rw [← hY]; exact ((z4.set 4 _).set 5 _)
          rw [hY]
          have hstep : stepW i L ⟨a, b, c, d, true, false⟩ = ⟨a, b, c, d, true, u.toList == [99, 104, 101, 99, 107]⟩ := by rw [T2.out]; unfold stepW; have g9 := G9.out; simp [show ¬ i = 1 by omega, show ¬ i = 3 by omega, show ¬ i = 5 by omega, show ¬ i = 7 by omega, show ¬ i = 8 by omega, show 8 ≤ i by omega]
          have hin := stepW_in (i := i) HOW.out y2.out
          rw [hstep] at hin
          have Y1 := Y0.out
          rw [hstep] at Y1
          obtain ⟨r1, r2, r3⟩ := round_end (N := W0.heap.size) (fun k hk => by omega) w0s hb1 hB y7 hW2
          exact ⟨r1, ⟨⟨a, b, c, d, true, u.toList == [99, 104, 101, 99, 107]⟩, Lib.hid Y1, Lib.hid hin, Lib.hid (fun h => absurd G9.out (by omega)), hK, z5.but2 hB (by omega), z6.but2 hB (by omega), r3⟩, r2⟩
        · gi_wp2
          refine ⟨trivial, rfl, (CallsIn.inRound l' (callsIn_wide.2 (qW _))).mono ?_⟩
          rintro e w3 ⟨rfl, rfl⟩
          gi_wp2
          obtain ⟨Y, hY⟩ : ∃ Y, ((w3.setCell ⟨H + 2, 4, none⟩ (.bool true)).setCell ⟨H + 2, 5, none⟩ (.bool true)) = Y := ⟨_, rfl⟩
          have hB : But (fun k => k = H + 2) w3 Y := by rw [← hY]; exact ((But.setCell (S := fun k => k = H + 2) _ _ rfl).trans (But.setCell (S := fun k => k = H + 2) _ _ rfl))
          have hK : Blk Y (H + 2) 58 (pcells ⟨a, b, c, d, true, true⟩) := by rw [← hY]; exact ((z4.set 4 _).set 5 _)
          rw [hY]
          have hstep : stepW i L ⟨a, b, c, d, true, true⟩ = ⟨a, b, c, d, true, true⟩ := by unfold stepW; have g9 := G9.out; simp [show ¬ i = 1 by omega, show ¬ i = 3 by omega, show ¬ i = 5 by omega, show ¬ i = 7 by omega, show ¬ i = 8 by omega, show 8 ≤ i by omega]
          have hin := stepW_in (i := i) HOW.out y2.out
          rw [hstep] at hin
          have Y1 := Y0.out
          rw [hstep] at Y1
          obtain ⟨r1, r2, r3⟩ := round_end (N := W0.heap.size) (fun k hk => by omega) w0s hb1 hB y7 hW2
          exact ⟨r1, ⟨⟨a, b, c, d, true, true⟩, Lib.hid Y1, Lib.hid hin, Lib.hid (fun h => absurd G9.out (by omega)), hK, z5.but2 hB (by omega), z6.but2 hB (by omega), r3⟩, r2⟩
    · have HOK := Lib.hid hok
      rw [decide_eq_false hok] at qW hokW
      rw [hokW] at y0
      simp only [Bool.false_eq_true, if_false] at y0
      have Y0 := Lib.hid y0
      have f0 := z5.frozen 0
      have f7 := z6.frozen 0
      have d0 : w1.cell? ⟨H, 0, none⟩ = some (.int .i64 0) := z5.cell 0
      have d1 : w1.cell? ⟨H, 1, none⟩ = some (.int .i64 0) := z5.cell 1
      have d2 : w1.cell? ⟨H, 2, none⟩ = some (.int .i64 0) := z5.cell 2
      have d3 : w1.cell? ⟨H, 3, none⟩ = some (.int .i64 0) := z5.cell 3
      have d4 : w1.cell? ⟨H, 4, none⟩ = some (.bool false) := z5.cell 4
      have d5 : w1.cell? ⟨H, 5, none⟩ = some (.bool false) := z5.cell 5
      have f1 := z5.frozen 1
      have f2 := z5.frozen 2
      have f3 := z5.frozen 3
      have f4 := z5.frozen 4
      have f5 := z5.frozen 5
      have d7 : w1.cell? ⟨H + 1, 0, none⟩ = some (.int .i64 0) := z6.cell 0
      clear hok hokW y0 y4 y5 y6 qA hE2 hv
      gi_wp2
      refine ⟨trivial, rfl, (CallsIn.inRound l' (callsIn_wide.2 (qW _))).mono ?_⟩
      rintro e w3 ⟨rfl, rfl⟩
      gi_wp2
      obtain ⟨Y, hY⟩ : ∃ Y, (((((((w3.setCell ⟨H, 0, none⟩ (.int .i64 0)).setCell ⟨H, 1, none⟩ (.int .i64 0)).setCell ⟨H, 2, none⟩ (.int .i64 0)).setCell ⟨H, 3, none⟩ (.int .i64 0)).setCell ⟨H, 4, none⟩ (.bool false)).setCell ⟨H, 5, none⟩ (.bool false)).setCell ⟨H + 1, 0, none⟩ (.int .i64 3)) = Y := ⟨_, rfl⟩
      have hB : But (fun k => k = H ∨ k = H + 1) w3 Y := by rw [← hY]; exact (((((((But.setCell (S := fun k => k = H ∨ k = H + 1) _ _ (.inl rfl)).trans (But.setCell (S := fun k => k = H ∨ k = H + 1) _ _ (.inl rfl))).trans (But.setCell (S := fun k => k = H ∨ k = H + 1) _ _ (.inl rfl))).trans (But.setCell (S := fun k => k = H ∨ k = H + 1) _ _ (.inl rfl))).trans (But.setCell (S := fun k => k = H ∨ k = H + 1) _ _ (.inl rfl))).trans (But.setCell (S := fun k => k = H ∨ k = H + 1) _ _ (.inl rfl))).trans (But.setCell (S := fun k => k = H ∨ k = H + 1) _ _ (.inr rfl)))
      have hK : Blk Y H 58 (pcells prm0) := by rw [← hY]; exact (blk_put z5 prm0).other (by dsimp only; omega) _
      have hK2 : Blk Y (H + 1) 27 [.int .i64 3] := by rw [← hY]; exact ((((((z6.other (by dsimp only; omega) _).other (by dsimp only; omega) _).other (by dsimp only; omega) _).other (by dsimp only; omega) _).other (by dsimp only; omega) _).other (by dsimp only; omega) _).set 0 _
      rw [hY]
      obtain ⟨r1, r2, r3⟩ := round_end (N := W0.heap.size) (fun k hk => by omega) w0s hb1 hB y7 hW2
      exact ⟨r1, ⟨rfl, Lib.hid Y0.out.symm, hK, hK2, r3⟩, r2⟩
  case hiter =>
    intro l' J' Jx' X hb hsz hst' hstx' hJI hJx' hr' hj
    exact words_iter s (H + 3) l' hs J' Jx' X (by omega) hst' hstx' hr' hj ((hb.cell (p := ⟨H + 3, 0, none⟩) (by dsimp only; omega)).trans k4)
  case hdone =>
    rintro D X hD ⟨p, y1, y2, y3, y4, y5, y6, y7⟩ hdf
    have hfp : foldW 0 prm0 (spl s.data.toList) = some p := by
      have := y1.out
      rw [show (spl s.data.toList).drop (npc s) = [] from List.drop_eq_nil_of_le (Nat.le_refl _)] at this
      rw [← this]
      rfl
    have qT := fun Y hE => text_p p y2.out Y hE
    have HPP := Lib.hid (show pparse s.data.toList = if txtL p = s.data.toList then (if okP p = true then (p, 0) else (prm0, 2)) else (prm0, 3) by unfold pparse; rw [hfp])
    have hin := y2.out
    obtain ⟨a, b, c, d, sy, ch⟩ := p
    obtain ⟨TX, hTX⟩ : ∃ T : ByteArray, (⟨(txtL ⟨a, b, c, d, sy, ch⟩).toArray⟩ : ByteArray) = T := ⟨_, rfl⟩
    have hTX2 : TX.toList = txtL ⟨a, b, c, d, sy, ch⟩ := by rw [← hTX, ByteArray.toList_eq]
    rw [hTX] at qT
    have HTX := Lib.hid hTX2
    have qC := fun w => pcheck_p a b c d sy ch w
    have e0 : X.cell? ⟨H + 2, 0, none⟩ = some (.int .i64 a) := y4.cell 0
    have e1 : X.cell? ⟨H + 2, 1, none⟩ = some (.int .i64 b) := y4.cell 1
    have e2 : X.cell? ⟨H + 2, 2, none⟩ = some (.int .i64 c) := y4.cell 2
    have e3 : X.cell? ⟨H + 2, 3, none⟩ = some (.int .i64 d) := y4.cell 3
    have e4 : X.cell? ⟨H + 2, 4, none⟩ = some (.bool sy) := y4.cell 4
    have e5 : X.cell? ⟨H + 2, 5, none⟩ = some (.bool ch) := y4.cell 5
    have hz := y7.size
    have hDX : D < X.heap.size := (Array.getElem?_eq_some_iff.1 hdf).1
    have hD2 : ¬ D = H := by omega
    have hD3 : ¬ D = H + 1 := by omega
    have hD4 : ¬ D = H + 2 := by omega
    clear y1 y3 hfp hTX hTX2 k1 k2 k3 k4
    dsimp only at qT
    by_cases ht : TX.toList = s.toList
    · have tb : (TX.toList == s.toList) = true := by rw [ht]; simp
      have ht2 : txtL ⟨a, b, c, d, sy, ch⟩ = s.data.toList := by rw [← HTX.out, ht, ByteArray.toList_eq]
      by_cases hok : okP ⟨a, b, c, d, sy, ch⟩ = true
      · have hpk : pchk a b c d = 0 := by
          unfold pchk
          rw [if_pos]
          unfold okP at hok
          exact of_decide_eq_true hok
        have HIF := Lib.hid (show (if txtL ⟨a, b, c, d, sy, ch⟩ = s.data.toList then (if okP ⟨a, b, c, d, sy, ch⟩ = true then ((⟨a, b, c, d, sy, ch⟩ : Prm), (0 : Int)) else (prm0, 2)) else (prm0, 3)) = (⟨a, b, c, d, sy, ch⟩, 0) by rw [if_pos ht2, if_pos hok])
        rw [hpk] at qC
        clear ht ht2 hok hpk
        go_wp2_with (first | (go_at_call 81; refine (qT _ (hE2 _ y7)).mono ?_; rintro en wT ⟨rfl, hbT⟩; have hsT := hbT.size; have Tg0 := (hbT.cell (p := ⟨H + 2, 0, none⟩) (by dsimp only; omega)).trans e0; have Tg1 := (hbT.cell (p := ⟨H + 2, 1, none⟩) (by dsimp only; omega)).trans e1; have Tg2 := (hbT.cell (p := ⟨H + 2, 2, none⟩) (by dsimp only; omega)).trans e2; have Tg3 := (hbT.cell (p := ⟨H + 2, 3, none⟩) (by dsimp only; omega)).trans e3; have Tg4 := (hbT.cell (p := ⟨H + 2, 4, none⟩) (by dsimp only; omega)).trans e4; have Tg5 := (hbT.cell (p := ⟨H + 2, 5, none⟩) (by dsimp only; omega)).trans e5; have T5 := y5.later hbT; have T6 := y6.later hbT; have Tu0 : wT.cell? ⟨H, 0, none⟩ = some (.int .i64 0) := T5.cell 0; have Tu1 : wT.cell? ⟨H, 1, none⟩ = some (.int .i64 0) := T5.cell 1; have Tu2 : wT.cell? ⟨H, 2, none⟩ = some (.int .i64 0) := T5.cell 2; have Tu3 : wT.cell? ⟨H, 3, none⟩ = some (.int .i64 0) := T5.cell 3; have Tu4 : wT.cell? ⟨H, 4, none⟩ = some (.bool false) := T5.cell 4; have Tu5 : wT.cell? ⟨H, 5, none⟩ = some (.bool false) := T5.cell 5; have Tv0 := T5.frozen 0; have Tv1 := T5.frozen 1; have Tv2 := T5.frozen 2; have Tv3 := T5.frozen 3; have Tv4 := T5.frozen 4; have Tv5 := T5.frozen 5; have Tw : wT.cell? ⟨H + 1, 0, none⟩ = some (.int .i64 0) := T6.cell 0; have Tx := T6.frozen 0; have Td := (hbT.block D (by omega)).trans hdf) | (go_at_call 55; refine (qC _).mono ?_; rintro en wC ⟨rfl, hbC⟩; have hsC := hbC.size; have Cg0 := (hbC.cell (p := ⟨H + 2, 0, none⟩) (by dsimp only; omega)).trans Tg0; have Cg1 := (hbC.cell (p := ⟨H + 2, 1, none⟩) (by dsimp only; omega)).trans Tg1; have Cg2 := (hbC.cell (p := ⟨H + 2, 2, none⟩) (by dsimp only; omega)).trans Tg2; have Cg3 := (hbC.cell (p := ⟨H + 2, 3, none⟩) (by dsimp only; omega)).trans Tg3; have Cg4 := (hbC.cell (p := ⟨H + 2, 4, none⟩) (by dsimp only; omega)).trans Tg4; have Cg5 := (hbC.cell (p := ⟨H + 2, 5, none⟩) (by dsimp only; omega)).trans Tg5; have C5 := T5.later hbC; have C6 := T6.later hbC; have Cu0 : wC.cell? ⟨H, 0, none⟩ = some (.int .i64 0) := C5.cell 0; have Cu1 : wC.cell? ⟨H, 1, none⟩ = some (.int .i64 0) := C5.cell 1; have Cu2 : wC.cell? ⟨H, 2, none⟩ = some (.int .i64 0) := C5.cell 2; have Cu3 : wC.cell? ⟨H, 3, none⟩ = some (.int .i64 0) := C5.cell 3; have Cu4 : wC.cell? ⟨H, 4, none⟩ = some (.bool false) := C5.cell 4; have Cu5 : wC.cell? ⟨H, 5, none⟩ = some (.bool false) := C5.cell 5; have Cv0 := C5.frozen 0; have Cv1 := C5.frozen 1; have Cv2 := C5.frozen 2; have Cv3 := C5.frozen 3; have Cv4 := C5.frozen 4; have Cv5 := C5.frozen 5; have Cw : wC.cell? ⟨H + 1, 0, none⟩ = some (.int .i64 0) := C6.cell 0; have Cx := C6.frozen 0; have Cd := (hbC.block D (by omega)).trans Td))
        obtain ⟨Y, hY⟩ : ∃ Y, (((((((wC.setCell ⟨H, 0, none⟩ (.int .i64 a)).setCell ⟨H, 1, none⟩ (.int .i64 b)).setCell ⟨H, 2, none⟩ (.int .i64 c)).setCell ⟨H, 3, none⟩ (.int .i64 d)).setCell ⟨H, 4, none⟩ (.bool sy)).setCell ⟨H, 5, none⟩ (.bool ch)).setCell ⟨H + 1, 0, none⟩ (.int .i64 0)) = Y := ⟨_, rfl⟩
        have hK : Blk Y H 58 (pcells ⟨a, b, c, d, sy, ch⟩) := by rw [← hY]; exact (blk_put C5 ⟨a, b, c, d, sy, ch⟩).other (by dsimp only; omega) _
        have hK2 : Blk Y (H + 1) 27 [.int .i64 0] := by rw [← hY]; exact ((((((C6.other (by dsimp only; omega) _).other (by dsimp only; omega) _).other (by dsimp only; omega) _).other (by dsimp only; omega) _).other (by dsimp only; omega) _).other (by dsimp only; omega) _).set 0 _
        have hDY : Y.heap[D]? = some (.deferred (some [])) := by rw [← hY]; exact (setCell_deferred (setCell_deferred (setCell_deferred (setCell_deferred (setCell_deferred (setCell_deferred (setCell_deferred Cd _ _) _ _) _ _) _ _) _ _) _ _) _ _)
        have hbY : Below H w Y := by rw [← hY]; exact (Below.setCell (Below.setCell (Below.setCell (Below.setCell (Below.setCell (Below.setCell (Below.setCell ((y7.trans (hbT.mono (by omega))).trans (hbC.mono (by omega))) (by dsimp only; omega) _) (by dsimp only; omega) _) (by dsimp only; omega) _) (by dsimp only; omega) _) (by dsimp only; omega) _) (by dsimp only; omega) _) (by dsimp only; omega) _)
        rw [hY]
        clear hY
        have q0 : (Y.putObj D (.deferred none)).cell? ⟨H, 0, none⟩ = some (.int .i64 a) := by rw [cell?_putDeferred hDY]; exact hK.cell 0
        have q1 : (Y.putObj D (.deferred none)).cell? ⟨H, 1, none⟩ = some (.int .i64 b) := by rw [cell?_putDeferred hDY]; exact hK.cell 1
        have q2 : (Y.putObj D (.deferred none)).cell? ⟨H, 2, none⟩ = some (.int .i64 c) := by rw [cell?_putDeferred hDY]; exact hK.cell 2
        have q3 : (Y.putObj D (.deferred none)).cell? ⟨H, 3, none⟩ = some (.int .i64 d) := by rw [cell?_putDeferred hDY]; exact hK.cell 3
        have q4 : (Y.putObj D (.deferred none)).cell? ⟨H, 4, none⟩ = some (.bool sy) := by rw [cell?_putDeferred hDY]; exact hK.cell 4
        have q5 : (Y.putObj D (.deferred none)).cell? ⟨H, 5, none⟩ = some (.bool ch) := by rw [cell?_putDeferred hDY]; exact hK.cell 5
        have q6 : (Y.putObj D (.deferred none)).cell? ⟨H + 1, 0, none⟩ = some (.int .i64 0) := by rw [cell?_putDeferred hDY]; exact hK2.cell 0
        refine ⟨by simp, .inl ⟨_, _, rfl, run_takeDeferred hDY, ?_⟩⟩
        rw [HPP.out, HIF.out]
        refine ⟨.tuple #[.agg #[.int .i64 a, .int .i64 b, .int .i64 c, .int .i64 d, .bool sy, .bool ch], .int .i64 0], by simp [results, Tryd.results39, go_sem, q0, q1, q2, q3, q4, q5, q6], rfl, ?_⟩
        ((try rw [hH]); exact below_putObj (B := H) (D := D) hbY (by omega) _)
      · have hpk : pchk a b c d = 2 := by
          unfold pchk
          rw [if_neg]
          intro h
          exact hok (by unfold okP; exact decide_eq_true h)
        have HIF := Lib.hid (show (if txtL ⟨a, b, c, d, sy, ch⟩ = s.data.toList then (if okP ⟨a, b, c, d, sy, ch⟩ = true then ((⟨a, b, c, d, sy, ch⟩ : Prm), (0 : Int)) else (prm0, 2)) else (prm0, 3)) = (prm0, 2) by rw [if_pos ht2, if_neg hok])
        rw [hpk] at qC
        clear ht ht2 hok hpk
        go_wp2_with (first | (go_at_call 81; refine (qT _ (hE2 _ y7)).mono ?_; rintro en wT ⟨rfl, hbT⟩; have hsT := hbT.size; have Tg0 := (hbT.cell (p := ⟨H + 2, 0, none⟩) (by dsimp only; omega)).trans e0; have Tg1 := (hbT.cell (p := ⟨H + 2, 1, none⟩) (by dsimp only; omega)).trans e1; have Tg2 := (hbT.cell (p := ⟨H + 2, 2, none⟩) (by dsimp only; omega)).trans e2; have Tg3 := (hbT.cell (p := ⟨H + 2, 3, none⟩) (by dsimp only; omega)).trans e3; have Tg4 := (hbT.cell (p := ⟨H + 2, 4, none⟩) (by dsimp only; omega)).trans e4; have Tg5 := (hbT.cell (p := ⟨H + 2, 5, none⟩) (by dsimp only; omega)).trans e5; have T5 := y5.later hbT; have T6 := y6.later hbT; have Tu0 : wT.cell? ⟨H, 0, none⟩ = some (.int .i64 0) := T5.cell 0; have Tu1 : wT.cell? ⟨H, 1, none⟩ = some (.int .i64 0) := T5.cell 1; have Tu2 : wT.cell? ⟨H, 2, none⟩ = some (.int .i64 0) := T5.cell 2; have Tu3 : wT.cell? ⟨H, 3, none⟩ = some (.int .i64 0) := T5.cell 3; have Tu4 : wT.cell? ⟨H, 4, none⟩ = some (.bool false) := T5.cell 4; have Tu5 : wT.cell? ⟨H, 5, none⟩ = some (.bool false) := T5.cell 5; have Tv0 := T5.frozen 0; have Tv1 := T5.frozen 1; have Tv2 := T5.frozen 2; have Tv3 := T5.frozen 3; have Tv4 := T5.frozen 4; have Tv5 := T5.frozen 5; have Tw : wT.cell? ⟨H + 1, 0, none⟩ = some (.int .i64 0) := T6.cell 0; have Tx := T6.frozen 0; have Td := (hbT.block D (by omega)).trans hdf) | (go_at_call 55; refine (qC _).mono ?_; rintro en wC ⟨rfl, hbC⟩; have hsC := hbC.size; have Cg0 := (hbC.cell (p := ⟨H + 2, 0, none⟩) (by dsimp only; omega)).trans Tg0; have Cg1 := (hbC.cell (p := ⟨H + 2, 1, none⟩) (by dsimp only; omega)).trans Tg1; have Cg2 := (hbC.cell (p := ⟨H + 2, 2, none⟩) (by dsimp only; omega)).trans Tg2; have Cg3 := (hbC.cell (p := ⟨H + 2, 3, none⟩) (by dsimp only; omega)).trans Tg3; have Cg4 := (hbC.cell (p := ⟨H + 2, 4, none⟩) (by dsimp only; omega)).trans Tg4; have Cg5 := (hbC.cell (p := ⟨H + 2, 5, none⟩) (by dsimp only; omega)).trans Tg5; have C5 := T5.later hbC; have C6 := T6.later hbC; have Cu0 : wC.cell? ⟨H, 0, none⟩ = some (.int .i64 0) := C5.cell 0; have Cu1 : wC.cell? ⟨H, 1, none⟩ = some (.int .i64 0) := C5.cell 1; have Cu2 : wC.cell? ⟨H, 2, none⟩ = some (.int .i64 0) := C5.cell 2; have Cu3 : wC.cell? ⟨H, 3, none⟩ = some (.int .i64 0) := C5.cell 3; have Cu4 : wC.cell? ⟨H, 4, none⟩ = some (.bool false) := C5.cell 4; have Cu5 : wC.cell? ⟨H, 5, none⟩ = some (.bool false) := C5.cell 5; have Cv0 := C5.frozen 0; have Cv1 := C5.frozen 1; have Cv2 := C5.frozen 2; have Cv3 := C5.frozen 3; have Cv4 := C5.frozen 4; have Cv5 := C5.frozen 5; have Cw : wC.cell? ⟨H + 1, 0, none⟩ = some (.int .i64 0) := C6.cell 0; have Cx := C6.frozen 0; have Cd := (hbC.block D (by omega)).trans Td))
        obtain ⟨Y, hY⟩ : ∃ Y, (((((((wC.setCell ⟨H, 0, none⟩ (.int .i64 0)).setCell ⟨H, 1, none⟩ (.int .i64 0)).setCell ⟨H, 2, none⟩ (.int .i64 0)).setCell ⟨H, 3, none⟩ (.int .i64 0)).setCell ⟨H, 4, none⟩ (.bool false)).setCell ⟨H, 5, none⟩ (.bool false)).setCell ⟨H + 1, 0, none⟩ (.int .i64 2)) = Y := ⟨_, rfl⟩
        have hK : Blk Y H 58 (pcells prm0) := by rw [← hY]; exact (blk_put C5 prm0).other (by dsimp only; omega) _
        have hK2 : Blk Y (H + 1) 27 [.int .i64 2] := by rw [← hY]; exact ((((((C6.other (by dsimp only; omega) _).other (by dsimp only; omega) _).other (by dsimp only; omega) _).other (by dsimp only; omega) _).other (by dsimp only; omega) _).other (by dsimp only; omega) _).set 0 _
        have hDY : Y.heap[D]? = some (.deferred (some [])) := by rw [← hY]; exact (setCell_deferred (setCell_deferred (setCell_deferred (setCell_deferred (setCell_deferred (setCell_deferred (setCell_deferred Cd _ _) _ _) _ _) _ _) _ _) _ _) _ _)
        have hbY : Below H w Y := by rw [← hY]; exact (Below.setCell (Below.setCell (Below.setCell (Below.setCell (Below.setCell (Below.setCell (Below.setCell ((y7.trans (hbT.mono (by omega))).trans (hbC.mono (by omega))) (by dsimp only; omega) _) (by dsimp only; omega) _) (by dsimp only; omega) _) (by dsimp only; omega) _) (by dsimp only; omega) _) (by dsimp only; omega) _) (by dsimp only; omega) _)
        rw [hY]
        clear hY
        have q0 : (Y.putObj D (.deferred none)).cell? ⟨H, 0, none⟩ = some (.int .i64 0) := by rw [cell?_putDeferred hDY]; exact hK.cell 0
        have q1 : (Y.putObj D (.deferred none)).cell? ⟨H, 1, none⟩ = some (.int .i64 0) := by rw [cell?_putDeferred hDY]; exact hK.cell 1
        have q2 : (Y.putObj D (.deferred none)).cell? ⟨H, 2, none⟩ = some (.int .i64 0) := by rw [cell?_putDeferred hDY]; exact hK.cell 2
        have q3 : (Y.putObj D (.deferred none)).cell? ⟨H, 3, none⟩ = some (.int .i64 0) := by rw [cell?_putDeferred hDY]; exact hK.cell 3
        have q4 : (Y.putObj D (.deferred none)).cell? ⟨H, 4, none⟩ = some (.bool false) := by rw [cell?_putDeferred hDY]; exact hK.cell 4
        have q5 : (Y.putObj D (.deferred none)).cell? ⟨H, 5, none⟩ = some (.bool false) := by rw [cell?_putDeferred hDY]; exact hK.cell 5
        have q6 : (Y.putObj D (.deferred none)).cell? ⟨H + 1, 0, none⟩ = some (.int .i64 2) := by rw [cell?_putDeferred hDY]; exact hK2.cell 0
        refine ⟨by simp, .inl ⟨_, _, rfl, run_takeDeferred hDY, ?_⟩⟩
        rw [HPP.out, HIF.out]
        refine ⟨.tuple #[.agg #[.int .i64 0, .int .i64 0, .int .i64 0, .int .i64 0, .bool false, .bool false], .int .i64 2], by simp [results, Tryd.results39, go_sem, q0, q1, q2, q3, q4, q5, q6], rfl, ?_⟩
        ((try rw [hH]); exact below_putObj (B := H) (D := D) hbY (by omega) _)
    · have tb : (TX.toList == s.toList) = false := by simpa using ht
      have ht2 : ¬ txtL ⟨a, b, c, d, sy, ch⟩ = s.data.toList := by rw [← HTX.out, ← ByteArray.toList_eq]; exact ht
      have HIF := Lib.hid (show (if txtL ⟨a, b, c, d, sy, ch⟩ = s.data.toList then (if okP ⟨a, b, c, d, sy, ch⟩ = true then ((⟨a, b, c, d, sy, ch⟩ : Prm), (0 : Int)) else (prm0, 2)) else (prm0, 3)) = (prm0, 3) by rw [if_neg ht2])
      clear ht ht2
      go_wp2_with ((go_at_call 81; refine (qT _ (hE2 _ y7)).mono ?_; rintro en wT ⟨rfl, hbT⟩; have hsT := hbT.size; have Tg0 := (hbT.cell (p := ⟨H + 2, 0, none⟩) (by dsimp only; omega)).trans e0; have Tg1 := (hbT.cell (p := ⟨H + 2, 1, none⟩) (by dsimp only; omega)).trans e1; have Tg2 := (hbT.cell (p := ⟨H + 2, 2, none⟩) (by dsimp only; omega)).trans e2; have Tg3 := (hbT.cell (p := ⟨H + 2, 3, none⟩) (by dsimp only; omega)).trans e3; have Tg4 := (hbT.cell (p := ⟨H + 2, 4, none⟩) (by dsimp only; omega)).trans e4; have Tg5 := (hbT.cell (p := ⟨H + 2, 5, none⟩) (by dsimp only; omega)).trans e5; have T5 := y5.later hbT; have T6 := y6.later hbT; have Tu0 : wT.cell? ⟨H, 0, none⟩ = some (.int .i64 0) := T5.cell 0; have Tu1 : wT.cell? ⟨H, 1, none⟩ = some (.int .i64 0) := T5.cell 1; have Tu2 : wT.cell? ⟨H, 2, none⟩ = some (.int .i64 0) := T5.cell 2; have Tu3 : wT.cell? ⟨H, 3, none⟩ = some (.int .i64 0) := T5.cell 3; have Tu4 : wT.cell? ⟨H, 4, none⟩ = some (.bool false) := T5.cell 4; have Tu5 : wT.cell? ⟨H, 5, none⟩ = some (.bool false) := T5.cell 5; have Tv0 := T5.frozen 0; have Tv1 := T5.frozen 1; have Tv2 := T5.frozen 2; have Tv3 := T5.frozen 3; have Tv4 := T5.frozen 4; have Tv5 := T5.frozen 5; have Tw : wT.cell? ⟨H + 1, 0, none⟩ = some (.int .i64 0) := T6.cell 0; have Tx := T6.frozen 0; have Td := (hbT.block D (by omega)).trans hdf))
      obtain ⟨Y, hY⟩ : ∃ Y, (((((((wT.setCell ⟨H, 0, none⟩ (.int .i64 0)).setCell ⟨H, 1, none⟩ (.int .i64 0)).setCell ⟨H, 2, none⟩ (.int .i64 0)).setCell ⟨H, 3, none⟩ (.int .i64 0)).setCell ⟨H, 4, none⟩ (.bool false)).setCell ⟨H, 5, none⟩ (.bool false)).setCell ⟨H + 1, 0, none⟩ (.int .i64 3)) = Y := ⟨_, rfl⟩
      have hK : Blk Y H 58 (pcells prm0) := by rw [← hY]; exact (blk_put T5 prm0).other (by dsimp only; omega) _
      have hK2 : Blk Y (H + 1) 27 [.int .i64 3] := by rw [← hY]; exact ((((((T6.other (by dsimp only; omega) _).other (by dsimp only; omega) _).other (by dsimp only; omega) _).other (by dsimp only; omega) _).other (by dsimp only; omega) _).other (by dsimp only; omega) _).set 0 _
      have hDY : Y.heap[D]? = some (.deferred (some [])) := by rw [← hY]; exact (setCell_deferred (setCell_deferred (setCell_deferred (setCell_deferred (setCell_deferred (setCell_deferred (setCell_deferred Td _ _) _ _) _ _) _ _) _ _) _ _) _ _)
      have hbY : Below H w Y := by rw [← hY]; exact (Below.setCell (Below.setCell (Below.setCell (Below.setCell (Below.setCell (Below.setCell (Below.setCell (y7.trans (hbT.mono (by omega))) (by dsimp only; omega) _) (by dsimp only; omega) _) (by dsimp only; omega) _) (by dsimp only; omega) _) (by dsimp only; omega) _) (by dsimp only; omega) _) (by dsimp only; omega) _)
      rw [hY]
      clear hY
      have q0 : (Y.putObj D (.deferred none)).cell? ⟨H, 0, none⟩ = some (.int .i64 0) := by rw [cell?_putDeferred hDY]; exact hK.cell 0
      have q1 : (Y.putObj D (.deferred none)).cell? ⟨H, 1, none⟩ = some (.int .i64 0) := by rw [cell?_putDeferred hDY]; exact hK.cell 1
      have q2 : (Y.putObj D (.deferred none)).cell? ⟨H, 2, none⟩ = some (.int .i64 0) := by rw [cell?_putDeferred hDY]; exact hK.cell 2
      have q3 : (Y.putObj D (.deferred none)).cell? ⟨H, 3, none⟩ = some (.int .i64 0) := by rw [cell?_putDeferred hDY]; exact hK.cell 3
      have q4 : (Y.putObj D (.deferred none)).cell? ⟨H, 4, none⟩ = some (.bool false) := by rw [cell?_putDeferred hDY]; exact hK.cell 4
      have q5 : (Y.putObj D (.deferred none)).cell? ⟨H, 5, none⟩ = some (.bool false) := by rw [cell?_putDeferred hDY]; exact hK.cell 5
      have q6 : (Y.putObj D (.deferred none)).cell? ⟨H + 1, 0, none⟩ = some (.int .i64 3) := by rw [cell?_putDeferred hDY]; exact hK2.cell 0
      refine ⟨by simp, .inl ⟨_, _, rfl, run_takeDeferred hDY, ?_⟩⟩
      rw [HPP.out, HIF.out]
      refine ⟨.tuple #[.agg #[.int .i64 0, .int .i64 0, .int .i64 0, .int .i64 0, .bool false, .bool false], .int .i64 3], by simp [results, Tryd.results39, go_sem, q0, q1, q2, q3, q4, q5, q6], rfl, ?_⟩
      ((try rw [hH]); exact below_putObj (B := H) (D := D) hbY (by omega) _)
  case hstop =>
    rintro D c X hD ⟨rfl, y1, y2, y3, y4⟩ hdf
    have hpp : pparse s.data.toList = (prm0, 3) := by unfold pparse; rw [y1.out]
    have q0 : (X.putObj D (.deferred none)).cell? ⟨H, 0, none⟩ = some (.int .i64 0) := by rw [cell?_putDeferred hdf]; exact y2.cell 0
    have q1 : (X.putObj D (.deferred none)).cell? ⟨H, 1, none⟩ = some (.int .i64 0) := by rw [cell?_putDeferred hdf]; exact y2.cell 1
    have q2 : (X.putObj D (.deferred none)).cell? ⟨H, 2, none⟩ = some (.int .i64 0) := by rw [cell?_putDeferred hdf]; exact y2.cell 2
    have q3 : (X.putObj D (.deferred none)).cell? ⟨H, 3, none⟩ = some (.int .i64 0) := by rw [cell?_putDeferred hdf]; exact y2.cell 3
    have q4 : (X.putObj D (.deferred none)).cell? ⟨H, 4, none⟩ = some (.bool false) := by rw [cell?_putDeferred hdf]; exact y2.cell 4
    have q5 : (X.putObj D (.deferred none)).cell? ⟨H, 5, none⟩ = some (.bool false) := by rw [cell?_putDeferred hdf]; exact y2.cell 5
    have q6 : (X.putObj D (.deferred none)).cell? ⟨H + 1, 0, none⟩ = some (.int .i64 3) := by rw [cell?_putDeferred hdf]; exact y3.cell 0
    go_wp2
    refine ⟨by simp, .inl ⟨_, _, rfl, run_takeDeferred hdf, ?_⟩⟩
    rw [hpp]
    refine ⟨.tuple #[.agg #[.int .i64 0, .int .i64 0, .int .i64 0, .int .i64 0, .bool false, .bool false], .int .i64 3], by simp [results, Tryd.results39, go_sem, *], rfl, ?_⟩
    exact below_putObj y4 (by omega) _
end Go.Proofs.YtmblpmaelglnpaaDoor
