/-
  The program's distances, walked.
-/
import Derived.Test.YtmblpmaelglnpaaDoorRows
import Derived.Test.YtmblpmaelglnpaaDoorSeqDist
import Derived.Test.YtmblpmaelglnpaaDoorGReps
import Derived.Test.YtmblpmaelglnpaaDoorFlat
import Derived.Test.YtmblpmaelglnpaaDoorRoundDraw
import Derived.Test.YtmblpmaelglnpaaDoorGWin
import Derived.Test.YtmblpmaelglnpaaDoorGBase
import Derived.Deep.Light
import Derived.Shelf.Abstract
import Derived.Shelf.RegionOpen
import Derived.OwnWalkIn
import Derived.TacticsInMore
import Derived.LoopNIn
import Derived.LoopIn
import Derived.Maps.OwnIn
import Derived.Outline
import Derived.IntWalk
import Derived.WalkMore
namespace Go.Proofs.YtmblpmaelglnpaaDoor
open Go.RowKit
set_option linter.unusedSimpArgs false
set_option linter.unusedVariables false
open Go.Shelf
attribute [local go_sem] Oper.semAt_some

/-- An error that joins one: what is wrong, and where. -/
def JoinAt (w : World) (L J : Nat) (u : Value) : Prop := L ≤ J ∧ ∃ G : Nat, L ≤ G ∧ Blk w J 140 [.slice (some ⟨G, 0, none⟩) 1 1] ∧ w.cell? ⟨G, 0, none⟩ = some u ∧ G < w.heap.size
theorem JoinAt.later {w w' : World} {L J : Nat} {u : Value} (h : JoinAt w L J u) (hb : Below w.heap.size w w') : JoinAt w' L J u := by
  obtain ⟨h0, G, h1, h2, h3, h4⟩ := h
  exact ⟨h0, G, h1, h2.later hb, (hb.cell (p := ⟨G, 0, none⟩) h4).trans h3, Nat.lt_of_lt_of_le h4 hb.size⟩
theorem JoinAt.put {w : World} {L J : Nat} {u : Value} (h : JoinAt w L J u) (a : Addr) (v : Value) (ha : a.block < L) : JoinAt (w.setCell a v) L J u := by
  obtain ⟨h0, G, h1, h2, h3, h4⟩ := h
  have hb : But (fun k => k = a.block) w (w.setCell a v) := But.setCell (S := fun k => k = a.block) w v rfl
  exact ⟨h0, G, h1, hb.block _ _ (fun e => by omega) h2, hb.cell (fun e => by dsimp only at e; omega) h3, by simpa using h4⟩
theorem JoinAt.zero {w : World} {L J : Nat} {u : Value} (h : JoinAt w L J u) : JoinAt w 0 J u := by
  obtain ⟨h0, G, h1, h2, h3, h4⟩ := h
  exact ⟨Nat.zero_le _, G, Nat.zero_le _, h2, h3, h4⟩
theorem JoinAt.mono {w : World} {L L' J : Nat} {u : Value} (h : JoinAt w L J u) (hl : L' ≤ L) : JoinAt w L' J u := by
  obtain ⟨h0, G, h1, h2, h3, h4⟩ := h
  exact ⟨by omega, G, by omega, h2, h3, h4⟩
/-- No error, or one with a code. -/
def ErrV (w : World) (L : Nat) (v : Value) (x : Int) : Prop := (x = 0 ∧ v = .nilIface) ∨ (x ≠ 0 ∧ ∃ (J : Nat) (i : Int), v = .iface 138 (.pointer (some ⟨J, 0, none⟩)) ∧ JoinAt w L J (.iface 118 (.agg #[.int .i64 x, .int .i64 i])))
theorem infoErr : (Tryd.prog.info? 74).map (fun i => (i.zero, i.size, i.bytes)) = some (some .nilIface, 1, 16) := by kernel_rfl
theorem mk_errs (w : World) : (Instr.makeSlice 137 (.int .i64 0) (.int .i64 1)).run Tryd.prog w = .ok (.slice (some ⟨w.heap.size, 0, none⟩) 0 1) (w.alloc (.cells #[.nilIface] 74)) := by kernel_rfl
set_option maxRecDepth 100000 in
set_option maxHeartbeats 4000000 in
theorem join_p (w : World) (a : Addr) (ha : a.spot = none) (v : Value) (hv : w.cell? a = some (.iface 118 v)) :
    Calls Tryd.prog 93 #[.slice (some a) 1 1] w fun e w' => ∃ J, e = .returned (.iface 138 (.pointer (some ⟨J, 0, none⟩))) ∧ JoinAt w' w.heap.size J (.iface 118 v) ∧ Below w.heap.size w w' := by
  obtain ⟨i1, hi1, hz0, hz1, hz2⟩ := info_parts infoErr
  have hmk := mk_errs
  have hlt : a.block < w.heap.size := World.block_lt_of_cell? w a hv
  have ha0 : a.add 0 = a := by unfold Addr.add; split <;> simp_all
  obtain ⟨ab, ao, asp⟩ := a
  dsimp only at ha hlt
  subst ha
  go_enter Tryd.func93, Tryd.ntmps93
  go_wp2
  repeat' (first | (refine wp_loop_rounds 2 ?_; rw [rounds_succ]; go_wp2) | (rw [rounds_succ]; go_wp2))
  refine bodyPost_ret (v := .iface 138 (.pointer (some ⟨w.heap.size + 1, 0, none⟩))) (by simp [results, Tryd.results93, go_sem]) rfl ⟨_, rfl, ⟨by omega, w.heap.size, by omega, ?_, by simp [go_sem], by simp; omega⟩, ?_⟩
  · exact Blk.alloc (by simpa using Blk.new (w.alloc (.cells #[.iface 118 v] 74)) 140 #[.slice (some ⟨w.heap.size, 0, none⟩) 1 1]) _
  · repeat' (first | with_reducible exact Below.refl _ _ | with_reducible refine Below.drew ?_ | with_reducible refine below_drewN ?_ _ | with_reducible refine Below.alloc ?_ (by first | omega | (simp <;> omega)) _ | with_reducible refine Below.setCell ?_ (by first | omega | (dsimp only; omega) | (simp <;> omega)) _ | with_reducible refine Below.trans ?_ (Below.mono (by assumption) (by first | omega | (simp <;> omega))))

def PDis (win : Int) (qs : List (Int × Int × Int)) (li th : Int) (r : Int × Int × Int) (w : World) (en : Ending) (w' : World) : Prop :=
  ∃ (ds : List Int) (a : Option Addr) (ca : Nat) (x y z : Int) (v : Value), en = .returned (.tuple #[.slice a ds.length ca, .agg #[.int .i64 x, .int .i64 y, .int .i64 z], v]) ∧ Row .i64 w' a ds ∧ (∀ g, (Value.slice a ds.length ca).ownBlock = some g → w.heap.size ≤ g) ∧ ErrV w' w.heap.size v (eAll win qs li th r) ∧ (eAll win qs li th r = 0 → ds = eDs qs li th r qs.length ∧ (eS qs li th r qs.length).2.2 = (x, y, z)) ∧ Below w.heap.size w w'
theorem pdis_err {win : Int} {qs : List (Int × Int × Int)} {li th : Int} {r : Int × Int × Int} {w w' : World} {x y z E i : Int} {J : Nat} (hE : eAll win qs li th r = E) (h0 : E ≠ 0) (hJ : JoinAt w' w.heap.size J (.iface 118 (.agg #[.int .i64 E, .int .i64 i]))) (hb : Below w.heap.size w w') : PDis win qs li th r w (.returned (.tuple #[.slice none 0 0, .agg #[.int .i64 x, .int .i64 y, .int .i64 z], .iface 138 (.pointer (some ⟨J, 0, none⟩))])) w' :=
  ⟨[], none, 0, x, y, z, _, rfl, .inl rfl, (fun g h => by cases h), .inr ⟨by rw [hE]; exact h0, J, i, rfl, by rw [hE]; exact hJ⟩, fun h => absurd (hE.symm.trans h) h0, hb⟩
theorem news_oneA (w : World) (g : Nat) (x : Value) (h : w.cell? ⟨g, 0, none⟩ = some x) : ∀ j u, [x][j]? = some u → w.cell? ((⟨g, 0, none⟩ : Addr).add j) = some u := by
  intro j u hu
  cases j with
  | zero => simp at hu; rw [← hu]; exact h
  | succ j => simp at hu
set_option maxRecDepth 100000 in
set_option maxHeartbeats 8000000 in
theorem pdists_p (pq : Option Addr) (qs : List (Int × Int × Int)) (cq : Nat) (li th a b c win : Int) (w : World) (hq : RowQ w pq qs) (hs : schk qs = 0) (hl1 : 0 ≤ li) (hl2 : li ≤ 131072) (ht1 : 0 ≤ th) (ht2 : th ≤ 1048576) :
    Calls Tryd.prog 60 #[.slice pq qs.length cq, .int .i64 li, .int .i64 th, .agg #[.int .i64 a, .int .i64 b, .int .i64 c], .int .i64 win] w (PDis win qs li th (a, b, c) w) := by
  obtain ⟨hn, hok⟩ := schk_get hs
  have hbd := fun k hk h => eS_bd (win := win) (qs := qs) (li := li) (th := th) (r := (a, b, c)) hs hl1 k hk h
  clear hs
  go_enter Tryd.func60, Tryd.ntmps60
  go_wp2
  go_step3
  go_wp2
  obtain ⟨W1, hW1⟩ : ∃ W1, (w.alloc (.cells #[.int .i64 a, .int .i64 b, .int .i64 c] 24)).alloc (.cells #[.int .i64 0, .int .i64 0, .int .i64 0] 24) = W1 := ⟨_, rfl⟩
  have hB0 : Blk W1 w.heap.size 24 [.int .i64 a, .int .i64 b, .int .i64 c] := by rw [← hW1]; exact (Blk.new _ _ _).alloc _
  have hN0 : Blk W1 (w.heap.size + 1) 24 [.int .i64 0, .int .i64 0, .int .i64 0] := by rw [← hW1]; simpa using Blk.new (w.alloc (.cells #[.int .i64 a, .int .i64 b, .int .i64 c] 24)) 24 #[.int .i64 0, .int .i64 0, .int .i64 0]
  have B1 : Below w.heap.size w W1 := by rw [← hW1]; repeat' (first | with_reducible exact Below.refl _ _ | with_reducible refine Below.drew ?_ | with_reducible refine below_drewN ?_ _ | with_reducible refine Below.alloc ?_ (by first | omega | (simp <;> omega)) _ | with_reducible refine Below.setCell ?_ (by first | omega | (dsimp only; omega) | (simp <;> omega)) _ | with_reducible refine Below.trans ?_ (Below.mono (by assumption) (by first | omega | (simp <;> omega))))
  rw [hW1]
  clear hW1
  obtain ⟨bH, hbH⟩ : ∃ x, w.heap.size = x := ⟨_, rfl⟩
  obtain ⟨bN, hbN⟩ : ∃ x, bH + 1 = x := ⟨_, rfl⟩
  rw [hbH] at hB0 hN0 B1 ⊢
  rw [hbN] at hN0 ⊢
  have HBH := Lib.hid hbH
  have hHN : bH < bN := by omega
  clear hbH hbN
  obtain ⟨i3, hi3, hz0, hz1, hz2⟩ := info_parts info3
  have HQ := Lib.hid (show ∀ wr, Below bH w wr → RowQ wr pq qs from fun wr h => hq.later (by rw [HBH.out]; exact h))
  have HOK := Lib.hid hok
  have HBD := Lib.hid hbd
  have HQN : qs.length ≤ 98303 := hn
  clear hq hok hbd hn
  go_step3
  go_wp2
  go_loopw [1, 13, 14, 23] (fun v1 v13 v14 v23 wr => ∃ (k : Nat) (ad : Option Addr) (cap : Nat) (x y z l0 t0 : Int), k ≤ qs.length ∧ (k = qs.length → k = 0) ∧ v23 = .int .i64 (k : Int) ∧ v13 = .slice ad k cap ∧ v1 = .int .i64 l0 ∧ v14 = .int .i64 t0 ∧ Hid (eS qs li th (a, b, c) k = (l0, t0, x, y, z)) ∧ Hid (eBad win qs li th (a, b, c) k = 0) ∧ wr.ownsRow (bN + 1) 3 1 (.slice ad k cap) k ((eDs qs li th (a, b, c) k).map (Value.int .i64)) ∧ Blk wr bH 24 [.int .i64 x, .int .i64 y, .int .i64 z] ∧ Blk wr bN 24 [.int .i64 0, .int .i64 0, .int .i64 0] ∧ Below bH w wr) (fun _ _ _ v _ => qs.length - (intOf v).toNat)
  case atStart => exact ⟨0, none, 0, a, b, c, li, th, by omega, fun _ => rfl, rfl, rfl, rfl, rfl, Lib.hid rfl, Lib.hid rfl, World.ownsRow_nil _ _ _ _, hB0, hN0, B1⟩
  case round =>
    clear hB0 hN0 B1
    obtain ⟨k, ad, cap, x, y, z, l0, t0, hk, hk0, rfl, rfl, rfl, rfl, HS, HB, hown, hB1, hN1, hb⟩ := hrel
    have HBB := Lib.hid hB1
    have HNN := Lib.hid hN1
    have y10 : wr.cell? ⟨bH, 0, none⟩ = some (.int .i64 x) := hB1.cell 0; have y11 : wr.cell? ⟨bH, 1, none⟩ = some (.int .i64 y) := hB1.cell 1; have y12 : wr.cell? ⟨bH, 2, none⟩ = some (.int .i64 z) := hB1.cell 2; have n10 : wr.cell? ⟨bN, 0, none⟩ = some (.int .i64 0) := hN1.cell 0; have n11 : wr.cell? ⟨bN, 1, none⟩ = some (.int .i64 0) := hN1.cell 1; have n12 : wr.cell? ⟨bN, 2, none⟩ = some (.int .i64 0) := hN1.cell 2; have f10 : wr.frozen? ⟨bN, 0, none⟩ = false := hN1.frozen 0; have g10 : wr.frozen? ⟨bH, 0, none⟩ = false := hB1.frozen 0; have f11 : wr.frozen? ⟨bN, 1, none⟩ = false := hN1.frozen 1; have g11 : wr.frozen? ⟨bH, 1, none⟩ = false := hB1.frozen 1; have f12 : wr.frozen? ⟨bN, 2, none⟩ = false := hN1.frozen 2; have g12 : wr.frozen? ⟨bH, 2, none⟩ = false := hB1.frozen 2; have l11 := hB1.lt; have l12 := hN1.lt
    have HO := Lib.hid hown
    have hb1 : ¬ bH = bN := by omega
    have hb2 : ¬ bN = bH := by omega
    obtain ⟨u1, u2, u3, u4⟩ := HBD.out k hk HB.out
    rw [HS.out] at u1 u2 u3 u4
    dsimp only at u1 u2 u3 u4
    clear hown
    by_cases hlt : k < qs.length
    · obtain ⟨b1, o1, rfl, hb5, hc1⟩ := (HQ.out wr hb).at hlt
      obtain ⟨c1, c2, c3⟩ := hc1 k hlt
      obtain ⟨⟨lq, ma, of⟩, hqq⟩ : ∃ q, qs.getD k (0, 0, 0) = q := ⟨_, rfl⟩
      obtain ⟨q1, q2, q3, q4, q5, q6⟩ := HOK.out k hlt lq ma of hqq
      rw [hqq] at c1 c2 c3
      dsimp only at c1 c2 c3
      have hE : eErr win qs li th (a, b, c) k = if l0 < lq then 24 else if (Rask x y z of lq).2.2 ≠ 0 ∨ win < (Rask x y z of lq).1 ∨ t0 + lq < (Rask x y z of lq).1 then 25 else 0 := by
        unfold eErr eK
        rw [HS.out, hqq]
      have hNx : eS qs li th (a, b, c) (k + 1) = (l0 - lq, t0 + lq + ma, (Rask x y z of lq).2.1) := by
        rw [eS, HS.out, hqq]
      have hDs : eDs qs li th (a, b, c) (k + 1) = eDs qs li th (a, b, c) k ++ [(Rask x y z of lq).1] := by
        rw [eDs_succ]; unfold eK; rw [HS.out, hqq]
      have qD := fun w => distance_p x y z of lq w
      have qX := fun w => next_p x y z of lq w
      have qJ := fun w a ha v h => join_p w a ha v h
      generalize Rask x y z of lq = R at hE hNx hDs qD qX
      obtain ⟨d, ⟨x', y', z'⟩, re⟩ := R
      dsimp only at hE hNx hDs qD qX
      have HE := Lib.hid hE
      have HNX := Lib.hid hNx
      have HDS := Lib.hid hDs
      have i0 : (0 : Int) ≤ (k : Int) := by omega
      have i1 : (k : Int) < (qs.length : Int) := by omega
      clear hc1 hqq hE hNx hDs
      by_cases h1 : l0 < lq
      · have hEA : eAll win qs li th (a, b, c) = 24 := by
          have e := HE.out
          rw [if_pos h1] at e
          rw [eAll_stop hlt HB.out (by rw [e]; decide), e]
        have e1 : decide (l0 < lq) = true := by simpa using h1
        have HEA := Lib.hid hEA
        clear hEA qD qX
        go_wp2
        go_region_with (go_at_call 93; refine (qJ _ _ rfl (.agg #[.int .i64 24, .int .i64 (k : Int)]) (by simp [go_sem])).mono ?_; rintro en wj ⟨J, rfl, hJ, hbj⟩; have hsj := hbj.size; (try simp at hsj); have jn0 : wj.cell? ⟨bN, 0, none⟩ = some (.int .i64 0) := (hbj.cell (p := ⟨bN, 0, none⟩) (by simp; omega)).trans (by simp [go_sem, *]); have jf0 : wj.frozen? ⟨bN, 0, none⟩ = false := (hbj.frozen (p := ⟨bN, 0, none⟩) (by simp; omega)).trans (by simp [go_sem, *]); have jy0 : wj.cell? ⟨bH, 0, none⟩ = some (.int .i64 x) := (hbj.cell (p := ⟨bH, 0, none⟩) (by simp; omega)).trans (by simp [go_sem, *]); have jn1 : wj.cell? ⟨bN, 1, none⟩ = some (.int .i64 0) := (hbj.cell (p := ⟨bN, 1, none⟩) (by simp; omega)).trans (by simp [go_sem, *]); have jf1 : wj.frozen? ⟨bN, 1, none⟩ = false := (hbj.frozen (p := ⟨bN, 1, none⟩) (by simp; omega)).trans (by simp [go_sem, *]); have jy1 : wj.cell? ⟨bH, 1, none⟩ = some (.int .i64 y) := (hbj.cell (p := ⟨bH, 1, none⟩) (by simp; omega)).trans (by simp [go_sem, *]); have jn2 : wj.cell? ⟨bN, 2, none⟩ = some (.int .i64 0) := (hbj.cell (p := ⟨bN, 2, none⟩) (by simp; omega)).trans (by simp [go_sem, *]); have jf2 : wj.frozen? ⟨bN, 2, none⟩ = false := (hbj.frozen (p := ⟨bN, 2, none⟩) (by simp; omega)).trans (by simp [go_sem, *]); have jy2 : wj.cell? ⟨bH, 2, none⟩ = some (.int .i64 z) := (hbj.cell (p := ⟨bH, 2, none⟩) (by simp; omega)).trans (by simp [go_sem, *]))
        all_goals
          go_wp2
          (try rw [Exit.noGoto_ret])
          refine bodyPost_ret (v := .tuple #[.slice none 0 0, .agg #[.int .i64 x, .int .i64 y, .int .i64 z], .iface 138 (.pointer (some ⟨J, 0, none⟩))]) (by simp [results, Tryd.results60, go_sem, *]) rfl (pdis_err (i := (k : Int)) HEA.out (by decide) ?_ ?_)
          · exact (((hJ.put _ _ (by simp; omega)).put _ _ (by simp; omega)).put _ _ (by simp; omega)).mono (by rw [HBH.out]; simp; omega)
          · rw [HBH.out]
            repeat' (first | with_reducible exact Below.refl _ _ | with_reducible refine Below.drew ?_ | with_reducible refine below_drewN ?_ _ | with_reducible refine Below.alloc ?_ (by first | omega | (simp <;> omega)) _ | with_reducible refine Below.setCell ?_ (by first | omega | (dsimp only; omega) | (simp <;> omega)) _ | with_reducible refine Below.trans ?_ (Below.mono (by assumption) (by first | omega | (simp <;> omega))))
      · have e1 : decide (l0 < lq) = false := by simpa using h1
        have a1 : IntKind.i64.wrap (l0 - lq) = l0 - lq := IntWalk.i64_in _ (by omega)
        have a2 : IntKind.i64.wrap (t0 + lq) = t0 + lq := IntWalk.i64_in _ (by omega)
        have HEL := Lib.hid h1
        by_cases h2 : re ≠ 0 ∨ win < d ∨ t0 + lq < d
        · have hEA : eAll win qs li th (a, b, c) = 25 := by
            have e := HE.out
            rw [if_neg (by omega), if_pos h2] at e
            rw [eAll_stop hlt HB.out (by rw [e]; decide), e]
          have h3 : (re != 0) = true ∨ (((re != 0) = false ∧ re = 0) ∧ decide (win < d) = true) ∨ (((re != 0) = false ∧ re = 0) ∧ decide (win < d) = false ∧ decide (t0 + lq < d) = true) := by
            by_cases g1 : re = 0
            · by_cases g2 : win < d
              · exact .inr (.inl ⟨⟨by simpa using g1, g1⟩, by simpa using g2⟩)
              · refine .inr (.inr ⟨⟨by simpa using g1, g1⟩, by simpa using g2, ?_⟩)
                rcases h2 with h | h | h
                · exact absurd g1 h
                · exact absurd h g2
                · simpa using h
            · exact .inl (by simpa using g1)
          have HEA := Lib.hid hEA
          clear hEA qX h2 h1
          rcases h3 with g1 | ⟨⟨g1, rfl⟩, g2⟩ | ⟨⟨g1, rfl⟩, g2, g3⟩
          all_goals
            go_wp2_with (go_at_call 94; refine (qD _).mono ?_; rintro e w3 ⟨rfl, hb6⟩; have hs6 := hb6.size; (try simp at hs6); have y0 : w3.cell? ⟨bH, 0, none⟩ = some (.int .i64 x) := (hb6.cell (p := ⟨bH, 0, none⟩) (by simp; omega)).trans (by simp [go_sem, *]); have y1 : w3.cell? ⟨bH, 1, none⟩ = some (.int .i64 y) := (hb6.cell (p := ⟨bH, 1, none⟩) (by simp; omega)).trans (by simp [go_sem, *]); have y2 : w3.cell? ⟨bH, 2, none⟩ = some (.int .i64 z) := (hb6.cell (p := ⟨bH, 2, none⟩) (by simp; omega)).trans (by simp [go_sem, *]); have x0 : w3.cell? ⟨wr.heap.size, 0, none⟩ = some (.int .i64 lq) := (hb6.cell (p := ⟨wr.heap.size, 0, none⟩) (by simp)).trans (by simp [go_sem]); have x1 : w3.cell? ⟨wr.heap.size, 1, none⟩ = some (.int .i64 ma) := (hb6.cell (p := ⟨wr.heap.size, 1, none⟩) (by simp)).trans (by simp [go_sem]); have x2 : w3.cell? ⟨wr.heap.size, 2, none⟩ = some (.int .i64 of) := (hb6.cell (p := ⟨wr.heap.size, 2, none⟩) (by simp)).trans (by simp [go_sem]); have m0 : w3.cell? ⟨bN, 0, none⟩ = some (.int .i64 0) := (hb6.cell (p := ⟨bN, 0, none⟩) (by simp; omega)).trans (by simp [go_sem, *]); have mf0 : w3.frozen? ⟨bN, 0, none⟩ = false := (hb6.frozen (p := ⟨bN, 0, none⟩) (by simp; omega)).trans (by simp [go_sem, *]); have yf0 : w3.frozen? ⟨bH, 0, none⟩ = false := (hb6.frozen (p := ⟨bH, 0, none⟩) (by simp; omega)).trans (by simp [go_sem, *]); have m1 : w3.cell? ⟨bN, 1, none⟩ = some (.int .i64 0) := (hb6.cell (p := ⟨bN, 1, none⟩) (by simp; omega)).trans (by simp [go_sem, *]); have mf1 : w3.frozen? ⟨bN, 1, none⟩ = false := (hb6.frozen (p := ⟨bN, 1, none⟩) (by simp; omega)).trans (by simp [go_sem, *]); have yf1 : w3.frozen? ⟨bH, 1, none⟩ = false := (hb6.frozen (p := ⟨bH, 1, none⟩) (by simp; omega)).trans (by simp [go_sem, *]); have m2 : w3.cell? ⟨bN, 2, none⟩ = some (.int .i64 0) := (hb6.cell (p := ⟨bN, 2, none⟩) (by simp; omega)).trans (by simp [go_sem, *]); have mf2 : w3.frozen? ⟨bN, 2, none⟩ = false := (hb6.frozen (p := ⟨bN, 2, none⟩) (by simp; omega)).trans (by simp [go_sem, *]); have yf2 : w3.frozen? ⟨bH, 2, none⟩ = false := (hb6.frozen (p := ⟨bH, 2, none⟩) (by simp; omega)).trans (by simp [go_sem, *]); have lH3 : bH < w3.heap.size := (by omega); have lN3 : bN < w3.heap.size := (by omega); have eH3 : ¬ bH = w3.heap.size := (by omega); have eN3 : ¬ bN = w3.heap.size := (by omega); have eH3' : ¬ w3.heap.size = bH := (by omega); have eN3' : ¬ w3.heap.size = bN := (by omega); have bw3 : Below bH w w3 := (((hb.alloc (by omega) _).trans (hb6.mono (by simp; omega)))); clear hB1 hN1 c1 c2 c3 y10 n10 f10 g10 y11 n11 f11 g11 y12 n12 f12 g12)
            go_region_with (go_at_call 93; refine (qJ _ _ rfl (.agg #[.int .i64 25, .int .i64 (k : Int)]) (by simp [go_sem])).mono ?_; rintro en wj ⟨J, rfl, hJ, hbj⟩; have hsj := hbj.size; (try simp at hsj); have jn0 : wj.cell? ⟨bN, 0, none⟩ = some (.int .i64 0) := (hbj.cell (p := ⟨bN, 0, none⟩) (by simp; omega)).trans (by simp [go_sem, *]); have jf0 : wj.frozen? ⟨bN, 0, none⟩ = false := (hbj.frozen (p := ⟨bN, 0, none⟩) (by simp; omega)).trans (by simp [go_sem, *]); have jy0 : wj.cell? ⟨bH, 0, none⟩ = some (.int .i64 x) := (hbj.cell (p := ⟨bH, 0, none⟩) (by simp; omega)).trans (by simp [go_sem, *]); have jn1 : wj.cell? ⟨bN, 1, none⟩ = some (.int .i64 0) := (hbj.cell (p := ⟨bN, 1, none⟩) (by simp; omega)).trans (by simp [go_sem, *]); have jf1 : wj.frozen? ⟨bN, 1, none⟩ = false := (hbj.frozen (p := ⟨bN, 1, none⟩) (by simp; omega)).trans (by simp [go_sem, *]); have jy1 : wj.cell? ⟨bH, 1, none⟩ = some (.int .i64 y) := (hbj.cell (p := ⟨bH, 1, none⟩) (by simp; omega)).trans (by simp [go_sem, *]); have jn2 : wj.cell? ⟨bN, 2, none⟩ = some (.int .i64 0) := (hbj.cell (p := ⟨bN, 2, none⟩) (by simp; omega)).trans (by simp [go_sem, *]); have jf2 : wj.frozen? ⟨bN, 2, none⟩ = false := (hbj.frozen (p := ⟨bN, 2, none⟩) (by simp; omega)).trans (by simp [go_sem, *]); have jy2 : wj.cell? ⟨bH, 2, none⟩ = some (.int .i64 z) := (hbj.cell (p := ⟨bH, 2, none⟩) (by simp; omega)).trans (by simp [go_sem, *]))
            all_goals
              go_wp2
              (try rw [Exit.noGoto_ret])
              refine bodyPost_ret (v := .tuple #[.slice none 0 0, .agg #[.int .i64 x, .int .i64 y, .int .i64 z], .iface 138 (.pointer (some ⟨J, 0, none⟩))]) (by simp [results, Tryd.results60, go_sem, *]) rfl (pdis_err (i := (k : Int)) HEA.out (by decide) ?_ ?_)
              · exact (((hJ.put _ _ (by simp; omega)).put _ _ (by simp; omega)).put _ _ (by simp; omega)).mono (by rw [HBH.out]; simp; omega)
              · rw [HBH.out]
                repeat' (first | with_reducible exact Below.refl _ _ | with_reducible refine Below.drew ?_ | with_reducible refine below_drewN ?_ _ | with_reducible refine Below.alloc ?_ (by first | omega | (simp <;> omega)) _ | with_reducible refine Below.setCell ?_ (by first | omega | (dsimp only; omega) | (simp <;> omega)) _ | with_reducible refine Below.trans ?_ (Below.mono (by assumption) (by first | omega | (simp <;> omega))))
        · have g1 : re = 0 := by
            apply Classical.byContradiction
            intro h; exact h2 (.inl h)
          subst g1
          have g2 : decide (win < d) = false := by simp; omega
          have g3 : decide (t0 + lq < d) = false := by simp; omega
          have hER : eErr win qs li th (a, b, c) k = 0 := by rw [HE.out, if_neg (by omega), if_neg h2]
          have HB2 := Lib.hid (eBad_next HB.out hER)
          have a3 : IntKind.i64.wrap (t0 + lq + ma) = t0 + lq + ma := IntWalk.i64_in _ (by omega)
          have a4 : IntKind.i64.wrap ((qs.length : Int) - 1) = (qs.length : Int) - 1 := IntWalk.i64_in _ (by omega)
          clear hER h2 h1 qJ
          by_cases hlast : k + 1 = qs.length
          · have hl1 : decide ((k : Int) = (qs.length : Int) - 1) = true := by simp; omega
            have hl2 : ((k : Int) == (qs.length : Int) - 1) = true := by simp; omega
            have a5 : IntKind.i64.wrap (t0 + lq + ma + (l0 - lq)) = t0 + lq + ma + (l0 - lq) := IntWalk.i64_in _ (by omega)
            have a6 : IntKind.i64.wrap (t0 + lq + ma + (l0 - lq) - th) = t0 + lq + ma + (l0 - lq) - th := IntWalk.i64_in _ (by omega)
            rw [hlast] at HB2 HNX HDS
            have qJ := fun w a ha v h => join_p w a ha v h
            have hEA : eAll win qs li th (a, b, c) = if 131072 < t0 + lq + ma + (l0 - lq) - th then 19 else 0 := by
              unfold eAll
              rw [if_neg (by simpa using HB2.out), HNX.out]
            have HEA := Lib.hid hEA
            have hds : (eDs qs li th (a, b, c) qs.length).length = k + 1 := by rw [eDs_len]; exact hlast.symm
            have HLE := Lib.hid hds
            clear hEA hds
            by_cases h5 : 131072 < t0 + lq + ma + (l0 - lq) - th
            · have e5 : decide (131072 < t0 + lq + ma + (l0 - lq) - th) = true := by simpa using h5
              replace HEA : Hid (eAll win qs li th (a, b, c) = 19) := Lib.hid (by rw [HEA.out, if_pos h5])
              go_wp2_with (first | (go_at_call 94; refine (qD _).mono ?_; rintro e w3 ⟨rfl, hb6⟩; have hs6 := hb6.size; (try simp at hs6); have y0 : w3.cell? ⟨bH, 0, none⟩ = some (.int .i64 x) := (hb6.cell (p := ⟨bH, 0, none⟩) (by simp; omega)).trans (by simp [go_sem, *]); have y1 : w3.cell? ⟨bH, 1, none⟩ = some (.int .i64 y) := (hb6.cell (p := ⟨bH, 1, none⟩) (by simp; omega)).trans (by simp [go_sem, *]); have y2 : w3.cell? ⟨bH, 2, none⟩ = some (.int .i64 z) := (hb6.cell (p := ⟨bH, 2, none⟩) (by simp; omega)).trans (by simp [go_sem, *]); have x0 : w3.cell? ⟨wr.heap.size, 0, none⟩ = some (.int .i64 lq) := (hb6.cell (p := ⟨wr.heap.size, 0, none⟩) (by simp)).trans (by simp [go_sem]); have x1 : w3.cell? ⟨wr.heap.size, 1, none⟩ = some (.int .i64 ma) := (hb6.cell (p := ⟨wr.heap.size, 1, none⟩) (by simp)).trans (by simp [go_sem]); have x2 : w3.cell? ⟨wr.heap.size, 2, none⟩ = some (.int .i64 of) := (hb6.cell (p := ⟨wr.heap.size, 2, none⟩) (by simp)).trans (by simp [go_sem]); have m0 : w3.cell? ⟨bN, 0, none⟩ = some (.int .i64 0) := (hb6.cell (p := ⟨bN, 0, none⟩) (by simp; omega)).trans (by simp [go_sem, *]); have mf0 : w3.frozen? ⟨bN, 0, none⟩ = false := (hb6.frozen (p := ⟨bN, 0, none⟩) (by simp; omega)).trans (by simp [go_sem, *]); have yf0 : w3.frozen? ⟨bH, 0, none⟩ = false := (hb6.frozen (p := ⟨bH, 0, none⟩) (by simp; omega)).trans (by simp [go_sem, *]); have m1 : w3.cell? ⟨bN, 1, none⟩ = some (.int .i64 0) := (hb6.cell (p := ⟨bN, 1, none⟩) (by simp; omega)).trans (by simp [go_sem, *]); have mf1 : w3.frozen? ⟨bN, 1, none⟩ = false := (hb6.frozen (p := ⟨bN, 1, none⟩) (by simp; omega)).trans (by simp [go_sem, *]); have yf1 : w3.frozen? ⟨bH, 1, none⟩ = false := (hb6.frozen (p := ⟨bH, 1, none⟩) (by simp; omega)).trans (by simp [go_sem, *]); have m2 : w3.cell? ⟨bN, 2, none⟩ = some (.int .i64 0) := (hb6.cell (p := ⟨bN, 2, none⟩) (by simp; omega)).trans (by simp [go_sem, *]); have mf2 : w3.frozen? ⟨bN, 2, none⟩ = false := (hb6.frozen (p := ⟨bN, 2, none⟩) (by simp; omega)).trans (by simp [go_sem, *]); have yf2 : w3.frozen? ⟨bH, 2, none⟩ = false := (hb6.frozen (p := ⟨bH, 2, none⟩) (by simp; omega)).trans (by simp [go_sem, *]); have lH3 : bH < w3.heap.size := (by omega); have lN3 : bN < w3.heap.size := (by omega); have eH3 : ¬ bH = w3.heap.size := (by omega); have eN3 : ¬ bN = w3.heap.size := (by omega); have eH3' : ¬ w3.heap.size = bH := (by omega); have eN3' : ¬ w3.heap.size = bN := (by omega); have bw3 : Below bH w w3 := (((hb.alloc (by omega) _).trans (hb6.mono (by simp; omega)))); clear hB1 hN1 c1 c2 c3 y10 n10 f10 g10 y11 n11 f11 g11 y12 n12 f12 g12) | (go_at_call 75; refine (qX _).mono ?_; rintro e w4 ⟨rfl, hb7⟩; have hs7 := hb7.size; (try simp at hs7); have tc0 : w4.cell? ⟨bH, 0, none⟩ = some (.int .i64 x) := (hb7.cell (p := ⟨bH, 0, none⟩) (by simp; omega)).trans (by simp [go_sem, *]); have tf0 : w4.frozen? ⟨bH, 0, none⟩ = false := (hb7.frozen (p := ⟨bH, 0, none⟩) (by simp; omega)).trans (by simp [go_sem, *]); have tx0 : w4.cell? ⟨wr.heap.size, 0, none⟩ = some (.int .i64 lq) := (hb7.cell (p := ⟨wr.heap.size, 0, none⟩) (by simp; omega)).trans (by simp [go_sem, *]); have tm0 : w4.cell? ⟨bN, 0, none⟩ = some (.int .i64 0) := (hb7.cell (p := ⟨bN, 0, none⟩) (by simp; omega)).trans (by simp [go_sem, *]); have tn0 : w4.frozen? ⟨bN, 0, none⟩ = false := (hb7.frozen (p := ⟨bN, 0, none⟩) (by simp; omega)).trans (by simp [go_sem, *]); have tc1 : w4.cell? ⟨bH, 1, none⟩ = some (.int .i64 y) := (hb7.cell (p := ⟨bH, 1, none⟩) (by simp; omega)).trans (by simp [go_sem, *]); have tf1 : w4.frozen? ⟨bH, 1, none⟩ = false := (hb7.frozen (p := ⟨bH, 1, none⟩) (by simp; omega)).trans (by simp [go_sem, *]); have tx1 : w4.cell? ⟨wr.heap.size, 1, none⟩ = some (.int .i64 ma) := (hb7.cell (p := ⟨wr.heap.size, 1, none⟩) (by simp; omega)).trans (by simp [go_sem, *]); have tm1 : w4.cell? ⟨bN, 1, none⟩ = some (.int .i64 0) := (hb7.cell (p := ⟨bN, 1, none⟩) (by simp; omega)).trans (by simp [go_sem, *]); have tn1 : w4.frozen? ⟨bN, 1, none⟩ = false := (hb7.frozen (p := ⟨bN, 1, none⟩) (by simp; omega)).trans (by simp [go_sem, *]); have tc2 : w4.cell? ⟨bH, 2, none⟩ = some (.int .i64 z) := (hb7.cell (p := ⟨bH, 2, none⟩) (by simp; omega)).trans (by simp [go_sem, *]); have tf2 : w4.frozen? ⟨bH, 2, none⟩ = false := (hb7.frozen (p := ⟨bH, 2, none⟩) (by simp; omega)).trans (by simp [go_sem, *]); have tx2 : w4.cell? ⟨wr.heap.size, 2, none⟩ = some (.int .i64 of) := (hb7.cell (p := ⟨wr.heap.size, 2, none⟩) (by simp; omega)).trans (by simp [go_sem, *]); have tm2 : w4.cell? ⟨bN, 2, none⟩ = some (.int .i64 0) := (hb7.cell (p := ⟨bN, 2, none⟩) (by simp; omega)).trans (by simp [go_sem, *]); have tn2 : w4.frozen? ⟨bN, 2, none⟩ = false := (hb7.frozen (p := ⟨bN, 2, none⟩) (by simp; omega)).trans (by simp [go_sem, *]); have HO4 := Lib.hid (ownsRow_later (ownsRow_later (HO.out.alloc (.cells #[.int .i64 lq, .int .i64 ma, .int .i64 of] 35)) hb6) hb7); have lH4 : bH < w4.heap.size := (by omega); have lN4 : bN < w4.heap.size := (by omega); have eH4 : ¬ bH = w4.heap.size := (by omega); have eN4 : ¬ bN = w4.heap.size := (by omega); have ew4 : wr.heap.size < w4.heap.size := (by omega); have ew4b : ¬ wr.heap.size = w4.heap.size := (by omega); have ewH : ¬ wr.heap.size = bH := (by omega); have ewH2 : ¬ bH = wr.heap.size := (by omega); have bw4 : Below bH w w4 := bw3.trans (hb7.mono (by omega)); clear eH3 eN3 eH3' eN3' y0 x0 m0 mf0 yf0 y1 x1 m1 mf1 yf1 y2 x2 m2 mf2 yf2) | (at_builtin; refine wpList_append_own_at _ rfl _ _ 44 rfl (bN + 1) 3 i3 (.int .i64 0) 1 8 Tryd.underlying44 hi3 hz0 hz1 hz2 rfl (by decide) (.slice ad k cap) k _ rfl ((ownsRow_setCell_below (ownsRow_setCell_below (ownsRow_setCell_below HO4.out (by dsimp only; omega) _) (by dsimp only; omega) _) (by dsimp only; omega) _).alloc _) ⟨w4.heap.size, 0, none⟩ 1 1 [.int .i64 d] rfl rfl (news_oneA _ _ _ (by simp [go_sem])) (one_int_o _ _) (by unfold maxLen; omega) (by omega) (by simp; omega) ?_; intro v' w5 ho5 hg5 hnil5 hat5; obtain ⟨ad', cap', rfl⟩ := own_slice_o ho5; have HO5 := Lib.hid ho5; have hs5 := hg5.size; (simp at hs5); have s0 : w5.cell? ⟨bH, 0, none⟩ = some (.int .i64 x') := (hg5.cell_far _ (by simp; omega) (fun hh => by have := own_base_o HO4.out _ hh.symm; simp at this; omega)).trans (by simp [go_sem, *]); have sn0 : w5.cell? ⟨bN, 0, none⟩ = some (.int .i64 0) := (hg5.cell_far _ (by simp; omega) (fun hh => by have := own_base_o HO4.out _ hh.symm; simp at this; omega)).trans (by simp [go_sem, *]); have sf0 : w5.frozen? ⟨bN, 0, none⟩ = false := (hg5.frozen_far _ (by simp; omega) (fun hh => by have := own_base_o HO4.out _ hh.symm; simp at this; omega)).trans (by simp [go_sem, *]); have sx0 : w5.cell? ⟨wr.heap.size, 0, none⟩ = some (.int .i64 lq) := (hg5.cell_far _ (by simp; omega) (fun hh => by have := own_ltG HO.out hh.symm; simp at this)).trans (by simp [go_sem, *]); have s1 : w5.cell? ⟨bH, 1, none⟩ = some (.int .i64 y') := (hg5.cell_far _ (by simp; omega) (fun hh => by have := own_base_o HO4.out _ hh.symm; simp at this; omega)).trans (by simp [go_sem, *]); have sn1 : w5.cell? ⟨bN, 1, none⟩ = some (.int .i64 0) := (hg5.cell_far _ (by simp; omega) (fun hh => by have := own_base_o HO4.out _ hh.symm; simp at this; omega)).trans (by simp [go_sem, *]); have sf1 : w5.frozen? ⟨bN, 1, none⟩ = false := (hg5.frozen_far _ (by simp; omega) (fun hh => by have := own_base_o HO4.out _ hh.symm; simp at this; omega)).trans (by simp [go_sem, *]); have sx1 : w5.cell? ⟨wr.heap.size, 1, none⟩ = some (.int .i64 ma) := (hg5.cell_far _ (by simp; omega) (fun hh => by have := own_ltG HO.out hh.symm; simp at this)).trans (by simp [go_sem, *]); have s2 : w5.cell? ⟨bH, 2, none⟩ = some (.int .i64 z') := (hg5.cell_far _ (by simp; omega) (fun hh => by have := own_base_o HO4.out _ hh.symm; simp at this; omega)).trans (by simp [go_sem, *]); have sn2 : w5.cell? ⟨bN, 2, none⟩ = some (.int .i64 0) := (hg5.cell_far _ (by simp; omega) (fun hh => by have := own_base_o HO4.out _ hh.symm; simp at this; omega)).trans (by simp [go_sem, *]); have sf2 : w5.frozen? ⟨bN, 2, none⟩ = false := (hg5.frozen_far _ (by simp; omega) (fun hh => by have := own_base_o HO4.out _ hh.symm; simp at this; omega)).trans (by simp [go_sem, *]); have sx2 : w5.cell? ⟨wr.heap.size, 2, none⟩ = some (.int .i64 of) := (hg5.cell_far _ (by simp; omega) (fun hh => by have := own_ltG HO.out hh.symm; simp at this)).trans (by simp [go_sem, *]); have hb9 : Below bH w w5 := (((((bw4.setCell (by simp) _).setCell (by simp) _).setCell (by simp) _).alloc (by simp; omega) _).grown hg5 (by simp; omega) (fun g hg => by have := own_base_o HO4.out g hg; omega)); have lH5 : bH < w5.heap.size := (by omega); have lN5 : bN < w5.heap.size := (by omega); have eH5 : ¬ bH = w5.heap.size := (by omega); have eN5 : ¬ bN = w5.heap.size := (by omega); have eH5' : ¬ w5.heap.size = bH := (by omega); have eN5' : ¬ w5.heap.size = bN := (by omega); clear tc0 tf0 tx0 tm0 tn0 tc1 tf1 tx1 tm1 tn1 tc2 tf2 tx2 tm2 tn2))
              go_region_with (go_at_call 93; refine (qJ _ _ rfl (.agg #[.int .i64 19, .int .i64 (qs.length : Int)]) (by simp [go_sem])).mono ?_; rintro en wj ⟨J, rfl, hJ, hbj⟩; have hsj := hbj.size; (try simp at hsj); have jn0 : wj.cell? ⟨bN, 0, none⟩ = some (.int .i64 0) := (hbj.cell (p := ⟨bN, 0, none⟩) (by simp; omega)).trans (by simp [go_sem, *]); have jf0 : wj.frozen? ⟨bN, 0, none⟩ = false := (hbj.frozen (p := ⟨bN, 0, none⟩) (by simp; omega)).trans (by simp [go_sem, *]); have jy0 : wj.cell? ⟨bH, 0, none⟩ = some (.int .i64 x') := (hbj.cell (p := ⟨bH, 0, none⟩) (by simp; omega)).trans (by simp [go_sem, *]); have jn1 : wj.cell? ⟨bN, 1, none⟩ = some (.int .i64 0) := (hbj.cell (p := ⟨bN, 1, none⟩) (by simp; omega)).trans (by simp [go_sem, *]); have jf1 : wj.frozen? ⟨bN, 1, none⟩ = false := (hbj.frozen (p := ⟨bN, 1, none⟩) (by simp; omega)).trans (by simp [go_sem, *]); have jy1 : wj.cell? ⟨bH, 1, none⟩ = some (.int .i64 y') := (hbj.cell (p := ⟨bH, 1, none⟩) (by simp; omega)).trans (by simp [go_sem, *]); have jn2 : wj.cell? ⟨bN, 2, none⟩ = some (.int .i64 0) := (hbj.cell (p := ⟨bN, 2, none⟩) (by simp; omega)).trans (by simp [go_sem, *]); have jf2 : wj.frozen? ⟨bN, 2, none⟩ = false := (hbj.frozen (p := ⟨bN, 2, none⟩) (by simp; omega)).trans (by simp [go_sem, *]); have jy2 : wj.cell? ⟨bH, 2, none⟩ = some (.int .i64 z') := (hbj.cell (p := ⟨bH, 2, none⟩) (by simp; omega)).trans (by simp [go_sem, *]))
              all_goals
                go_wp2
                (try rw [Exit.noGoto_ret])
                refine bodyPost_ret (v := .tuple #[.slice none 0 0, .agg #[.int .i64 x', .int .i64 y', .int .i64 z'], .iface 138 (.pointer (some ⟨J, 0, none⟩))]) (by simp [results, Tryd.results60, go_sem, *]) rfl (pdis_err (i := (qs.length : Int)) HEA.out (by decide) ?_ ?_)
                · exact (((hJ.put _ _ (by simp; omega)).put _ _ (by simp; omega)).put _ _ (by simp; omega)).mono (by rw [HBH.out]; simp; omega)
                · rw [HBH.out]
                  repeat' (first | with_reducible exact Below.refl _ _ | with_reducible refine Below.drew ?_ | with_reducible refine below_drewN ?_ _ | with_reducible refine Below.alloc ?_ (by first | omega | (simp <;> omega)) _ | with_reducible refine Below.setCell ?_ (by first | omega | (dsimp only; omega) | (simp <;> omega)) _ | with_reducible refine Below.trans ?_ (Below.mono (by assumption) (by first | omega | (simp <;> omega))))
            · have e5 : decide (131072 < t0 + lq + ma + (l0 - lq) - th) = false := by simpa using h5
              replace HEA : Hid (eAll win qs li th (a, b, c) = 0) := Lib.hid (by rw [HEA.out, if_neg h5])
              go_wp2_with (first | (go_at_call 94; refine (qD _).mono ?_; rintro e w3 ⟨rfl, hb6⟩; have hs6 := hb6.size; (try simp at hs6); have y0 : w3.cell? ⟨bH, 0, none⟩ = some (.int .i64 x) := (hb6.cell (p := ⟨bH, 0, none⟩) (by simp; omega)).trans (by simp [go_sem, *]); have y1 : w3.cell? ⟨bH, 1, none⟩ = some (.int .i64 y) := (hb6.cell (p := ⟨bH, 1, none⟩) (by simp; omega)).trans (by simp [go_sem, *]); have y2 : w3.cell? ⟨bH, 2, none⟩ = some (.int .i64 z) := (hb6.cell (p := ⟨bH, 2, none⟩) (by simp; omega)).trans (by simp [go_sem, *]); have x0 : w3.cell? ⟨wr.heap.size, 0, none⟩ = some (.int .i64 lq) := (hb6.cell (p := ⟨wr.heap.size, 0, none⟩) (by simp)).trans (by simp [go_sem]); have x1 : w3.cell? ⟨wr.heap.size, 1, none⟩ = some (.int .i64 ma) := (hb6.cell (p := ⟨wr.heap.size, 1, none⟩) (by simp)).trans (by simp [go_sem]); have x2 : w3.cell? ⟨wr.heap.size, 2, none⟩ = some (.int .i64 of) := (hb6.cell (p := ⟨wr.heap.size, 2, none⟩) (by simp)).trans (by simp [go_sem]); have m0 : w3.cell? ⟨bN, 0, none⟩ = some (.int .i64 0) := (hb6.cell (p := ⟨bN, 0, none⟩) (by simp; omega)).trans (by simp [go_sem, *]); have mf0 : w3.frozen? ⟨bN, 0, none⟩ = false := (hb6.frozen (p := ⟨bN, 0, none⟩) (by simp; omega)).trans (by simp [go_sem, *]); have yf0 : w3.frozen? ⟨bH, 0, none⟩ = false := (hb6.frozen (p := ⟨bH, 0, none⟩) (by simp; omega)).trans (by simp [go_sem, *]); have m1 : w3.cell? ⟨bN, 1, none⟩ = some (.int .i64 0) := (hb6.cell (p := ⟨bN, 1, none⟩) (by simp; omega)).trans (by simp [go_sem, *]); have mf1 : w3.frozen? ⟨bN, 1, none⟩ = false := (hb6.frozen (p := ⟨bN, 1, none⟩) (by simp; omega)).trans (by simp [go_sem, *]); have yf1 : w3.frozen? ⟨bH, 1, none⟩ = false := (hb6.frozen (p := ⟨bH, 1, none⟩) (by simp; omega)).trans (by simp [go_sem, *]); have m2 : w3.cell? ⟨bN, 2, none⟩ = some (.int .i64 0) := (hb6.cell (p := ⟨bN, 2, none⟩) (by simp; omega)).trans (by simp [go_sem, *]); have mf2 : w3.frozen? ⟨bN, 2, none⟩ = false := (hb6.frozen (p := ⟨bN, 2, none⟩) (by simp; omega)).trans (by simp [go_sem, *]); have yf2 : w3.frozen? ⟨bH, 2, none⟩ = false := (hb6.frozen (p := ⟨bH, 2, none⟩) (by simp; omega)).trans (by simp [go_sem, *]); have lH3 : bH < w3.heap.size := (by omega); have lN3 : bN < w3.heap.size := (by omega); have eH3 : ¬ bH = w3.heap.size := (by omega); have eN3 : ¬ bN = w3.heap.size := (by omega); have eH3' : ¬ w3.heap.size = bH := (by omega); have eN3' : ¬ w3.heap.size = bN := (by omega); have bw3 : Below bH w w3 := (((hb.alloc (by omega) _).trans (hb6.mono (by simp; omega)))); clear hB1 hN1 c1 c2 c3 y10 n10 f10 g10 y11 n11 f11 g11 y12 n12 f12 g12) | (go_at_call 75; refine (qX _).mono ?_; rintro e w4 ⟨rfl, hb7⟩; have hs7 := hb7.size; (try simp at hs7); have tc0 : w4.cell? ⟨bH, 0, none⟩ = some (.int .i64 x) := (hb7.cell (p := ⟨bH, 0, none⟩) (by simp; omega)).trans (by simp [go_sem, *]); have tf0 : w4.frozen? ⟨bH, 0, none⟩ = false := (hb7.frozen (p := ⟨bH, 0, none⟩) (by simp; omega)).trans (by simp [go_sem, *]); have tx0 : w4.cell? ⟨wr.heap.size, 0, none⟩ = some (.int .i64 lq) := (hb7.cell (p := ⟨wr.heap.size, 0, none⟩) (by simp; omega)).trans (by simp [go_sem, *]); have tm0 : w4.cell? ⟨bN, 0, none⟩ = some (.int .i64 0) := (hb7.cell (p := ⟨bN, 0, none⟩) (by simp; omega)).trans (by simp [go_sem, *]); have tn0 : w4.frozen? ⟨bN, 0, none⟩ = false := (hb7.frozen (p := ⟨bN, 0, none⟩) (by simp; omega)).trans (by simp [go_sem, *]); have tc1 : w4.cell? ⟨bH, 1, none⟩ = some (.int .i64 y) := (hb7.cell (p := ⟨bH, 1, none⟩) (by simp; omega)).trans (by simp [go_sem, *]); have tf1 : w4.frozen? ⟨bH, 1, none⟩ = false := (hb7.frozen (p := ⟨bH, 1, none⟩) (by simp; omega)).trans (by simp [go_sem, *]); have tx1 : w4.cell? ⟨wr.heap.size, 1, none⟩ = some (.int .i64 ma) := (hb7.cell (p := ⟨wr.heap.size, 1, none⟩) (by simp; omega)).trans (by simp [go_sem, *]); have tm1 : w4.cell? ⟨bN, 1, none⟩ = some (.int .i64 0) := (hb7.cell (p := ⟨bN, 1, none⟩) (by simp; omega)).trans (by simp [go_sem, *]); have tn1 : w4.frozen? ⟨bN, 1, none⟩ = false := (hb7.frozen (p := ⟨bN, 1, none⟩) (by simp; omega)).trans (by simp [go_sem, *]); have tc2 : w4.cell? ⟨bH, 2, none⟩ = some (.int .i64 z) := (hb7.cell (p := ⟨bH, 2, none⟩) (by simp; omega)).trans (by simp [go_sem, *]); have tf2 : w4.frozen? ⟨bH, 2, none⟩ = false := (hb7.frozen (p := ⟨bH, 2, none⟩) (by simp; omega)).trans (by simp [go_sem, *]); have tx2 : w4.cell? ⟨wr.heap.size, 2, none⟩ = some (.int .i64 of) := (hb7.cell (p := ⟨wr.heap.size, 2, none⟩) (by simp; omega)).trans (by simp [go_sem, *]); have tm2 : w4.cell? ⟨bN, 2, none⟩ = some (.int .i64 0) := (hb7.cell (p := ⟨bN, 2, none⟩) (by simp; omega)).trans (by simp [go_sem, *]); have tn2 : w4.frozen? ⟨bN, 2, none⟩ = false := (hb7.frozen (p := ⟨bN, 2, none⟩) (by simp; omega)).trans (by simp [go_sem, *]); have HO4 := Lib.hid (ownsRow_later (ownsRow_later (HO.out.alloc (.cells #[.int .i64 lq, .int .i64 ma, .int .i64 of] 35)) hb6) hb7); have lH4 : bH < w4.heap.size := (by omega); have lN4 : bN < w4.heap.size := (by omega); have eH4 : ¬ bH = w4.heap.size := (by omega); have eN4 : ¬ bN = w4.heap.size := (by omega); have ew4 : wr.heap.size < w4.heap.size := (by omega); have ew4b : ¬ wr.heap.size = w4.heap.size := (by omega); have ewH : ¬ wr.heap.size = bH := (by omega); have ewH2 : ¬ bH = wr.heap.size := (by omega); have bw4 : Below bH w w4 := bw3.trans (hb7.mono (by omega)); clear eH3 eN3 eH3' eN3' y0 x0 m0 mf0 yf0 y1 x1 m1 mf1 yf1 y2 x2 m2 mf2 yf2) | (at_builtin; refine wpList_append_own_at _ rfl _ _ 44 rfl (bN + 1) 3 i3 (.int .i64 0) 1 8 Tryd.underlying44 hi3 hz0 hz1 hz2 rfl (by decide) (.slice ad k cap) k _ rfl ((ownsRow_setCell_below (ownsRow_setCell_below (ownsRow_setCell_below HO4.out (by dsimp only; omega) _) (by dsimp only; omega) _) (by dsimp only; omega) _).alloc _) ⟨w4.heap.size, 0, none⟩ 1 1 [.int .i64 d] rfl rfl (news_oneA _ _ _ (by simp [go_sem])) (one_int_o _ _) (by unfold maxLen; omega) (by omega) (by simp; omega) ?_; intro v' w5 ho5 hg5 hnil5 hat5; obtain ⟨ad', cap', rfl⟩ := own_slice_o ho5; have HO5 := Lib.hid ho5; have hs5 := hg5.size; (simp at hs5); have s0 : w5.cell? ⟨bH, 0, none⟩ = some (.int .i64 x') := (hg5.cell_far _ (by simp; omega) (fun hh => by have := own_base_o HO4.out _ hh.symm; simp at this; omega)).trans (by simp [go_sem, *]); have sn0 : w5.cell? ⟨bN, 0, none⟩ = some (.int .i64 0) := (hg5.cell_far _ (by simp; omega) (fun hh => by have := own_base_o HO4.out _ hh.symm; simp at this; omega)).trans (by simp [go_sem, *]); have sf0 : w5.frozen? ⟨bN, 0, none⟩ = false := (hg5.frozen_far _ (by simp; omega) (fun hh => by have := own_base_o HO4.out _ hh.symm; simp at this; omega)).trans (by simp [go_sem, *]); have sx0 : w5.cell? ⟨wr.heap.size, 0, none⟩ = some (.int .i64 lq) := (hg5.cell_far _ (by simp; omega) (fun hh => by have := own_ltG HO.out hh.symm; simp at this)).trans (by simp [go_sem, *]); have s1 : w5.cell? ⟨bH, 1, none⟩ = some (.int .i64 y') := (hg5.cell_far _ (by simp; omega) (fun hh => by have := own_base_o HO4.out _ hh.symm; simp at this; omega)).trans (by simp [go_sem, *]); have sn1 : w5.cell? ⟨bN, 1, none⟩ = some (.int .i64 0) := (hg5.cell_far _ (by simp; omega) (fun hh => by have := own_base_o HO4.out _ hh.symm; simp at this; omega)).trans (by simp [go_sem, *]); have sf1 : w5.frozen? ⟨bN, 1, none⟩ = false := (hg5.frozen_far _ (by simp; omega) (fun hh => by have := own_base_o HO4.out _ hh.symm; simp at this; omega)).trans (by simp [go_sem, *]); have sx1 : w5.cell? ⟨wr.heap.size, 1, none⟩ = some (.int .i64 ma) := (hg5.cell_far _ (by simp; omega) (fun hh => by have := own_ltG HO.out hh.symm; simp at this)).trans (by simp [go_sem, *]); have s2 : w5.cell? ⟨bH, 2, none⟩ = some (.int .i64 z') := (hg5.cell_far _ (by simp; omega) (fun hh => by have := own_base_o HO4.out _ hh.symm; simp at this; omega)).trans (by simp [go_sem, *]); have sn2 : w5.cell? ⟨bN, 2, none⟩ = some (.int .i64 0) := (hg5.cell_far _ (by simp; omega) (fun hh => by have := own_base_o HO4.out _ hh.symm; simp at this; omega)).trans (by simp [go_sem, *]); have sf2 : w5.frozen? ⟨bN, 2, none⟩ = false := (hg5.frozen_far _ (by simp; omega) (fun hh => by have := own_base_o HO4.out _ hh.symm; simp at this; omega)).trans (by simp [go_sem, *]); have sx2 : w5.cell? ⟨wr.heap.size, 2, none⟩ = some (.int .i64 of) := (hg5.cell_far _ (by simp; omega) (fun hh => by have := own_ltG HO.out hh.symm; simp at this)).trans (by simp [go_sem, *]); have hb9 : Below bH w w5 := (((((bw4.setCell (by simp) _).setCell (by simp) _).setCell (by simp) _).alloc (by simp; omega) _).grown hg5 (by simp; omega) (fun g hg => by have := own_base_o HO4.out g hg; omega)); have lH5 : bH < w5.heap.size := (by omega); have lN5 : bN < w5.heap.size := (by omega); have eH5 : ¬ bH = w5.heap.size := (by omega); have eN5 : ¬ bN = w5.heap.size := (by omega); have eH5' : ¬ w5.heap.size = bH := (by omega); have eN5' : ¬ w5.heap.size = bN := (by omega); clear tc0 tf0 tx0 tm0 tn0 tc1 tf1 tx1 tm1 tn1 tc2 tf2 tx2 tm2 tn2))
              apply wp_det
              case det =>
                go_region
                all_goals exact ⟨rfl, rfl⟩
              case go =>
                go_wp2
                (try rw [Exit.noGoto_ret])
                refine bodyPost_ret (v := .tuple #[.slice ad' (k + 1) cap', .agg #[.int .i64 x', .int .i64 y', .int .i64 z'], .nilIface]) (by simp [results, Tryd.results60, go_sem, *]) rfl ⟨eDs qs li th (a, b, c) qs.length, ad', cap', x', y', z', .nilIface, by rw [HLE.out], ?_, (fun g hg => by rw [HLE.out] at hg; have := own_base_o HO5.out g hg; rw [HBH.out]; omega), .inl ⟨HEA.out, rfl⟩, fun h => ⟨rfl, by rw [HNX.out]⟩, ?_⟩
                · have HO7 := HO5.out
                  rw [← List.map_singleton, ← List.map_append, ← HDS.out] at HO7
                  exact Row.later (Row.of_own_slice (k := .i64) (ownsRow_setCell_below (ownsRow_setCell_below (ownsRow_setCell_below HO7 (by simp <;> omega) _) (by simp <;> omega) _) (by simp <;> omega) _)) (Below.refl _ _).drew
                · rw [HBH.out]
                  repeat' (first | with_reducible exact Below.refl _ _ | with_reducible refine Below.drew ?_ | with_reducible refine below_drewN ?_ _ | with_reducible refine Below.alloc ?_ (by first | omega | (simp <;> omega)) _ | with_reducible refine Below.setCell ?_ (by first | omega | (dsimp only; omega) | (simp <;> omega)) _ | with_reducible refine Below.trans ?_ (Below.mono (by assumption) (by first | omega | (simp <;> omega))))
          · have hl1 : decide ((k : Int) = (qs.length : Int) - 1) = false := by simp; omega
            have hl2 : ((k : Int) == (qs.length : Int) - 1) = false := by simp; omega
            go_wp2_with (first | (go_at_call 94; refine (qD _).mono ?_; rintro e w3 ⟨rfl, hb6⟩; have hs6 := hb6.size; (try simp at hs6); have y0 : w3.cell? ⟨bH, 0, none⟩ = some (.int .i64 x) := (hb6.cell (p := ⟨bH, 0, none⟩) (by simp; omega)).trans (by simp [go_sem, *]); have y1 : w3.cell? ⟨bH, 1, none⟩ = some (.int .i64 y) := (hb6.cell (p := ⟨bH, 1, none⟩) (by simp; omega)).trans (by simp [go_sem, *]); have y2 : w3.cell? ⟨bH, 2, none⟩ = some (.int .i64 z) := (hb6.cell (p := ⟨bH, 2, none⟩) (by simp; omega)).trans (by simp [go_sem, *]); have x0 : w3.cell? ⟨wr.heap.size, 0, none⟩ = some (.int .i64 lq) := (hb6.cell (p := ⟨wr.heap.size, 0, none⟩) (by simp)).trans (by simp [go_sem]); have x1 : w3.cell? ⟨wr.heap.size, 1, none⟩ = some (.int .i64 ma) := (hb6.cell (p := ⟨wr.heap.size, 1, none⟩) (by simp)).trans (by simp [go_sem]); have x2 : w3.cell? ⟨wr.heap.size, 2, none⟩ = some (.int .i64 of) := (hb6.cell (p := ⟨wr.heap.size, 2, none⟩) (by simp)).trans (by simp [go_sem]); have m0 : w3.cell? ⟨bN, 0, none⟩ = some (.int .i64 0) := (hb6.cell (p := ⟨bN, 0, none⟩) (by simp; omega)).trans (by simp [go_sem, *]); have mf0 : w3.frozen? ⟨bN, 0, none⟩ = false := (hb6.frozen (p := ⟨bN, 0, none⟩) (by simp; omega)).trans (by simp [go_sem, *]); have yf0 : w3.frozen? ⟨bH, 0, none⟩ = false := (hb6.frozen (p := ⟨bH, 0, none⟩) (by simp; omega)).trans (by simp [go_sem, *]); have m1 : w3.cell? ⟨bN, 1, none⟩ = some (.int .i64 0) := (hb6.cell (p := ⟨bN, 1, none⟩) (by simp; omega)).trans (by simp [go_sem, *]); have mf1 : w3.frozen? ⟨bN, 1, none⟩ = false := (hb6.frozen (p := ⟨bN, 1, none⟩) (by simp; omega)).trans (by simp [go_sem, *]); have yf1 : w3.frozen? ⟨bH, 1, none⟩ = false := (hb6.frozen (p := ⟨bH, 1, none⟩) (by simp; omega)).trans (by simp [go_sem, *]); have m2 : w3.cell? ⟨bN, 2, none⟩ = some (.int .i64 0) := (hb6.cell (p := ⟨bN, 2, none⟩) (by simp; omega)).trans (by simp [go_sem, *]); have mf2 : w3.frozen? ⟨bN, 2, none⟩ = false := (hb6.frozen (p := ⟨bN, 2, none⟩) (by simp; omega)).trans (by simp [go_sem, *]); have yf2 : w3.frozen? ⟨bH, 2, none⟩ = false := (hb6.frozen (p := ⟨bH, 2, none⟩) (by simp; omega)).trans (by simp [go_sem, *]); have lH3 : bH < w3.heap.size := (by omega); have lN3 : bN < w3.heap.size := (by omega); have eH3 : ¬ bH = w3.heap.size := (by omega); have eN3 : ¬ bN = w3.heap.size := (by omega); have eH3' : ¬ w3.heap.size = bH := (by omega); have eN3' : ¬ w3.heap.size = bN := (by omega); have bw3 : Below bH w w3 := (((hb.alloc (by omega) _).trans (hb6.mono (by simp; omega)))); clear hB1 hN1 c1 c2 c3 y10 n10 f10 g10 y11 n11 f11 g11 y12 n12 f12 g12) | (go_at_call 75; refine (qX _).mono ?_; rintro e w4 ⟨rfl, hb7⟩; have hs7 := hb7.size; (try simp at hs7); have tc0 : w4.cell? ⟨bH, 0, none⟩ = some (.int .i64 x) := (hb7.cell (p := ⟨bH, 0, none⟩) (by simp; omega)).trans (by simp [go_sem, *]); have tf0 : w4.frozen? ⟨bH, 0, none⟩ = false := (hb7.frozen (p := ⟨bH, 0, none⟩) (by simp; omega)).trans (by simp [go_sem, *]); have tx0 : w4.cell? ⟨wr.heap.size, 0, none⟩ = some (.int .i64 lq) := (hb7.cell (p := ⟨wr.heap.size, 0, none⟩) (by simp; omega)).trans (by simp [go_sem, *]); have tm0 : w4.cell? ⟨bN, 0, none⟩ = some (.int .i64 0) := (hb7.cell (p := ⟨bN, 0, none⟩) (by simp; omega)).trans (by simp [go_sem, *]); have tn0 : w4.frozen? ⟨bN, 0, none⟩ = false := (hb7.frozen (p := ⟨bN, 0, none⟩) (by simp; omega)).trans (by simp [go_sem, *]); have tc1 : w4.cell? ⟨bH, 1, none⟩ = some (.int .i64 y) := (hb7.cell (p := ⟨bH, 1, none⟩) (by simp; omega)).trans (by simp [go_sem, *]); have tf1 : w4.frozen? ⟨bH, 1, none⟩ = false := (hb7.frozen (p := ⟨bH, 1, none⟩) (by simp; omega)).trans (by simp [go_sem, *]); have tx1 : w4.cell? ⟨wr.heap.size, 1, none⟩ = some (.int .i64 ma) := (hb7.cell (p := ⟨wr.heap.size, 1, none⟩) (by simp; omega)).trans (by simp [go_sem, *]); have tm1 : w4.cell? ⟨bN, 1, none⟩ = some (.int .i64 0) := (hb7.cell (p := ⟨bN, 1, none⟩) (by simp; omega)).trans (by simp [go_sem, *]); have tn1 : w4.frozen? ⟨bN, 1, none⟩ = false := (hb7.frozen (p := ⟨bN, 1, none⟩) (by simp; omega)).trans (by simp [go_sem, *]); have tc2 : w4.cell? ⟨bH, 2, none⟩ = some (.int .i64 z) := (hb7.cell (p := ⟨bH, 2, none⟩) (by simp; omega)).trans (by simp [go_sem, *]); have tf2 : w4.frozen? ⟨bH, 2, none⟩ = false := (hb7.frozen (p := ⟨bH, 2, none⟩) (by simp; omega)).trans (by simp [go_sem, *]); have tx2 : w4.cell? ⟨wr.heap.size, 2, none⟩ = some (.int .i64 of) := (hb7.cell (p := ⟨wr.heap.size, 2, none⟩) (by simp; omega)).trans (by simp [go_sem, *]); have tm2 : w4.cell? ⟨bN, 2, none⟩ = some (.int .i64 0) := (hb7.cell (p := ⟨bN, 2, none⟩) (by simp; omega)).trans (by simp [go_sem, *]); have tn2 : w4.frozen? ⟨bN, 2, none⟩ = false := (hb7.frozen (p := ⟨bN, 2, none⟩) (by simp; omega)).trans (by simp [go_sem, *]); have HO4 := Lib.hid (ownsRow_later (ownsRow_later (HO.out.alloc (.cells #[.int .i64 lq, .int .i64 ma, .int .i64 of] 35)) hb6) hb7); have lH4 : bH < w4.heap.size := (by omega); have lN4 : bN < w4.heap.size := (by omega); have eH4 : ¬ bH = w4.heap.size := (by omega); have eN4 : ¬ bN = w4.heap.size := (by omega); have ew4 : wr.heap.size < w4.heap.size := (by omega); have ew4b : ¬ wr.heap.size = w4.heap.size := (by omega); have ewH : ¬ wr.heap.size = bH := (by omega); have ewH2 : ¬ bH = wr.heap.size := (by omega); have bw4 : Below bH w w4 := bw3.trans (hb7.mono (by omega)); clear eH3 eN3 eH3' eN3' y0 x0 m0 mf0 yf0 y1 x1 m1 mf1 yf1 y2 x2 m2 mf2 yf2) | (at_builtin; refine wpList_append_own_at _ rfl _ _ 44 rfl (bN + 1) 3 i3 (.int .i64 0) 1 8 Tryd.underlying44 hi3 hz0 hz1 hz2 rfl (by decide) (.slice ad k cap) k _ rfl ((ownsRow_setCell_below (ownsRow_setCell_below (ownsRow_setCell_below HO4.out (by dsimp only; omega) _) (by dsimp only; omega) _) (by dsimp only; omega) _).alloc _) ⟨w4.heap.size, 0, none⟩ 1 1 [.int .i64 d] rfl rfl (news_oneA _ _ _ (by simp [go_sem])) (one_int_o _ _) (by unfold maxLen; omega) (by omega) (by simp; omega) ?_; intro v' w5 ho5 hg5 hnil5 hat5; obtain ⟨ad', cap', rfl⟩ := own_slice_o ho5; have HO5 := Lib.hid ho5; have hs5 := hg5.size; (simp at hs5); have s0 : w5.cell? ⟨bH, 0, none⟩ = some (.int .i64 x') := (hg5.cell_far _ (by simp; omega) (fun hh => by have := own_base_o HO4.out _ hh.symm; simp at this; omega)).trans (by simp [go_sem, *]); have sn0 : w5.cell? ⟨bN, 0, none⟩ = some (.int .i64 0) := (hg5.cell_far _ (by simp; omega) (fun hh => by have := own_base_o HO4.out _ hh.symm; simp at this; omega)).trans (by simp [go_sem, *]); have sf0 : w5.frozen? ⟨bN, 0, none⟩ = false := (hg5.frozen_far _ (by simp; omega) (fun hh => by have := own_base_o HO4.out _ hh.symm; simp at this; omega)).trans (by simp [go_sem, *]); have sx0 : w5.cell? ⟨wr.heap.size, 0, none⟩ = some (.int .i64 lq) := (hg5.cell_far _ (by simp; omega) (fun hh => by have := own_ltG HO.out hh.symm; simp at this)).trans (by simp [go_sem, *]); have s1 : w5.cell? ⟨bH, 1, none⟩ = some (.int .i64 y') := (hg5.cell_far _ (by simp; omega) (fun hh => by have := own_base_o HO4.out _ hh.symm; simp at this; omega)).trans (by simp [go_sem, *]); have sn1 : w5.cell? ⟨bN, 1, none⟩ = some (.int .i64 0) := (hg5.cell_far _ (by simp; omega) (fun hh => by have := own_base_o HO4.out _ hh.symm; simp at this; omega)).trans (by simp [go_sem, *]); have sf1 : w5.frozen? ⟨bN, 1, none⟩ = false := (hg5.frozen_far _ (by simp; omega) (fun hh => by have := own_base_o HO4.out _ hh.symm; simp at this; omega)).trans (by simp [go_sem, *]); have sx1 : w5.cell? ⟨wr.heap.size, 1, none⟩ = some (.int .i64 ma) := (hg5.cell_far _ (by simp; omega) (fun hh => by have := own_ltG HO.out hh.symm; simp at this)).trans (by simp [go_sem, *]); have s2 : w5.cell? ⟨bH, 2, none⟩ = some (.int .i64 z') := (hg5.cell_far _ (by simp; omega) (fun hh => by have := own_base_o HO4.out _ hh.symm; simp at this; omega)).trans (by simp [go_sem, *]); have sn2 : w5.cell? ⟨bN, 2, none⟩ = some (.int .i64 0) := (hg5.cell_far _ (by simp; omega) (fun hh => by have := own_base_o HO4.out _ hh.symm; simp at this; omega)).trans (by simp [go_sem, *]); have sf2 : w5.frozen? ⟨bN, 2, none⟩ = false := (hg5.frozen_far _ (by simp; omega) (fun hh => by have := own_base_o HO4.out _ hh.symm; simp at this; omega)).trans (by simp [go_sem, *]); have sx2 : w5.cell? ⟨wr.heap.size, 2, none⟩ = some (.int .i64 of) := (hg5.cell_far _ (by simp; omega) (fun hh => by have := own_ltG HO.out hh.symm; simp at this)).trans (by simp [go_sem, *]); have hb9 : Below bH w w5 := (((((bw4.setCell (by simp) _).setCell (by simp) _).setCell (by simp) _).alloc (by simp; omega) _).grown hg5 (by simp; omega) (fun g hg => by have := own_base_o HO4.out g hg; omega)); have lH5 : bH < w5.heap.size := (by omega); have lN5 : bN < w5.heap.size := (by omega); have eH5 : ¬ bH = w5.heap.size := (by omega); have eN5 : ¬ bN = w5.heap.size := (by omega); have eH5' : ¬ w5.heap.size = bH := (by omega); have eN5' : ¬ w5.heap.size = bN := (by omega); clear tc0 tf0 tx0 tm0 tn0 tc1 tf1 tx1 tm1 tn1 tc2 tf2 tx2 tm2 tn2))
            go_roundw
            case rel =>
              refine ⟨k + 1, ad', cap', x', y', z', l0 - lq, t0 + lq + ma, by omega, fun h => absurd h hlast, by go_num, rfl, rfl, rfl, HNX, HB2, ?_, (hg5.block bH (by simp; omega) (fun hh => by have := own_base_o HO4.out _ hh.symm; omega)).trans ((((((((HBB.out.alloc _).later hb6).later hb7).set 0 (.int .i64 x')).set 1 (.int .i64 y')).set 2 (.int .i64 z')).alloc _)), (hg5.block bN (by simp; omega) (fun hh => by have := own_base_o HO4.out _ hh.symm; omega)).trans ((((((((HNN.out.alloc _).later hb6).later hb7).other (a := ⟨bH, 0, none⟩) (by dsimp only; omega) _).other (a := ⟨bH, 1, none⟩) (by dsimp only; omega) _).other (a := ⟨bH, 2, none⟩) (by dsimp only; omega) _).alloc _)), hb9⟩
              rw [HDS.out, List.map_append]
              exact HO5.out
            case measure => go_light; simp [intOf] <;> omega
    · obtain rfl : k = qs.length := by omega
      have hq0 : qs.length = 0 := hk0 rfl
      have hq1 : qs = [] := List.eq_nil_of_length_eq_zero hq0
      subst hq1
      have hS0 := HS.out
      simp only [List.length_nil, eS] at hS0
      obtain ⟨rfl, rfl, rfl, rfl, rfl⟩ : l0 = li ∧ t0 = th ∧ x = a ∧ y = b ∧ z = c := by
        have e1 := congrArg (·.1) hS0
        have e2 := congrArg (·.2.1) hS0
        have e3 := congrArg (·.2.2.1) hS0
        have e4 := congrArg (·.2.2.2.1) hS0
        have e5 := congrArg (·.2.2.2.2) hS0
        exact ⟨e1.symm, e2.symm, e3.symm, e4.symm, e5.symm⟩
      have hEA : eAll win [] l0 t0 (x, y, z) = 0 := by
        unfold eAll
        simp only [List.length_nil, eBad, eS]
        rw [if_neg (by simp), if_neg (by omega)]
      have HEA := Lib.hid hEA
      have a1 : IntKind.i64.wrap (t0 + l0) = t0 + l0 := IntWalk.i64_in _ (by omega)
      have a2 : IntKind.i64.wrap (t0 + l0 - t0) = l0 := by rw [IntWalk.i64_in _ (by omega)]; omega
      have e1 : decide (131072 < l0) = false := by simp; omega
      have jj : ¬ (([] : List (Int × Int × Int)).length : Int) < (([] : List (Int × Int × Int)).length : Int) := by omega
      clear hEA hS0 HS HB
      go_wp2
      apply wp_det
      case det =>
        go_region
        all_goals exact ⟨rfl, rfl⟩
      case go =>
        go_wp2
        (try rw [Exit.noGoto_ret])
        refine bodyPost_ret (v := .tuple #[.slice ad 0 cap, .agg #[.int .i64 x, .int .i64 y, .int .i64 z], .nilIface]) (by simp [results, Tryd.results60, go_sem, *]) rfl ⟨[], ad, cap, x, y, z, .nilIface, rfl, .inl rfl, (fun g hg => by have := own_base_o HO.out g hg; rw [HBH.out]; omega), .inl ⟨HEA.out, rfl⟩, fun h => ⟨rfl, rfl⟩, ?_⟩
        rw [HBH.out]
        repeat' (first | with_reducible exact Below.refl _ _ | with_reducible refine Below.drew ?_ | with_reducible refine below_drewN ?_ _ | with_reducible refine Below.alloc ?_ (by first | omega | (simp <;> omega)) _ | with_reducible refine Below.setCell ?_ (by first | omega | (dsimp only; omega) | (simp <;> omega)) _ | with_reducible refine Below.trans ?_ (Below.mono (by assumption) (by first | omega | (simp <;> omega))))
end Go.Proofs.YtmblpmaelglnpaaDoor
