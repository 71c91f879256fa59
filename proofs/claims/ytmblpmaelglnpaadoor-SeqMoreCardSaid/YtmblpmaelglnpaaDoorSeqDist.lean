/-
  The reference's distances, walked.
-/
import Derived.Test.YtmblpmaelglnpaaDoorRows
import Derived.Test.YtmblpmaelglnpaaDoorSeqPlain
import Derived.Test.YtmblpmaelglnpaaDoorGReps
import Derived.Test.YtmblpmaelglnpaaDoorFlat
import Derived.Test.YtmblpmaelglnpaaDoorRoundDraw
import Derived.Test.YtmblpmaelglnpaaDoorGBase
import Derived.Deep.Light
import Derived.Shelf.Abstract
import Derived.Shelf.RegionOpen
import Derived.OwnWalkIn
import Derived.TacticsInMore
import Derived.LoopNIn
import Derived.LoopIn
import Derived.Maps.OwnIn
import Derived.Outline
import Derived.IntWalk
import Derived.WalkMore
namespace Go.Proofs.YtmblpmaelglnpaaDoor
open Go.RowKit
set_option linter.unusedSimpArgs false
set_option linter.unusedVariables false
open Go.Shelf
attribute [local go_sem] Oper.semAt_some
/-- The distances of sequences and the last history, or an error. -/
def DisPost (win : Int) (qs : List (Int × Int × Int)) (li th : Int) (r : Int × Int × Int) (w : World) (en : Ending) (w' : World) : Prop :=
  ∃ (ds : List Int) (a : Option Addr) (ca : Nat) (x y z E : Int), en = .returned (.tuple #[.slice a ds.length ca, .agg #[.int .i64 x, .int .i64 y, .int .i64 z], .int .i64 E]) ∧ Row .i64 w' a ds ∧ E = eAll win qs li th r ∧ (E = 0 → ds = eDs qs li th r qs.length ∧ (eS qs li th r qs.length).2.2 = (x, y, z)) ∧ Below w.heap.size w w'

theorem eAll_stop {win : Int} {qs : List (Int × Int × Int)} {li th : Int} {r : Int × Int × Int} {k : Nat} (hk : k < qs.length) (h0 : eBad win qs li th r k = 0) (h1 : eErr win qs li th r k ≠ 0) : eAll win qs li th r = eErr win qs li th r k := by
  unfold eAll
  have := eBad_stop hk h0 h1
  rw [if_pos (by rw [this]; exact h1), this]
theorem eBad_next {win : Int} {qs : List (Int × Int × Int)} {li th : Int} {r : Int × Int × Int} {k : Nat} (h0 : eBad win qs li th r k = 0) (h1 : eErr win qs li th r k = 0) : eBad win qs li th r (k + 1) = 0 := by
  unfold eBad
  rw [if_neg (by simpa using h0), h1]
set_option maxRecDepth 100000 in
set_option maxHeartbeats 8000000 in
theorem rdists_p (pq : Option Addr) (qs : List (Int × Int × Int)) (cq : Nat) (li th a b c win : Int) (w : World) (hq : RowQ w pq qs) (hs : schk qs = 0) (hl1 : 0 ≤ li) (hl2 : li ≤ 131072) (ht1 : 0 ≤ th) (ht2 : th ≤ 1048576) :
    Calls Tryd.prog 67 #[.slice pq qs.length cq, .int .i64 li, .int .i64 th, .agg #[.int .i64 a, .int .i64 b, .int .i64 c], .int .i64 win] w (DisPost win qs li th (a, b, c) w) := by
  obtain ⟨hn, hok⟩ := schk_get hs
  have hbd := fun k hk h => eS_bd (win := win) (qs := qs) (li := li) (th := th) (r := (a, b, c)) hs hl1 k hk h
  clear hs
  go_enter Tryd.func67, Tryd.ntmps67
  go_wp2
  obtain ⟨W1, hW1⟩ : ∃ W1, (w.alloc (.cells #[.int .i64 a, .int .i64 b, .int .i64 c] 24)).alloc (.cells #[.int .i64 0, .int .i64 0, .int .i64 0] 24) = W1 := ⟨_, rfl⟩
  have hB0 : Blk W1 w.heap.size 24 [.int .i64 a, .int .i64 b, .int .i64 c] := by rw [← hW1]; exact (Blk.new _ _ _).alloc _
  have hN0 : Blk W1 (w.heap.size + 1) 24 [.int .i64 0, .int .i64 0, .int .i64 0] := by rw [← hW1]; simpa using Blk.new (w.alloc (.cells #[.int .i64 a, .int .i64 b, .int .i64 c] 24)) 24 #[.int .i64 0, .int .i64 0, .int .i64 0]
  have B1 : Below w.heap.size w W1 := by rw [← hW1]; repeat' (first | with_reducible exact Below.refl _ _ | with_reducible refine Below.drew ?_ | with_reducible refine below_drewN ?_ _ | with_reducible refine Below.alloc ?_ (by first | omega | (simp <;> omega)) _ | with_reducible refine Below.setCell ?_ (by first | omega | (dsimp only; omega) | (simp <;> omega)) _ | with_reducible refine Below.trans ?_ (Below.mono (by assumption) (by first | omega | (simp <;> omega))))
  rw [hW1]
  clear hW1
  obtain ⟨bH, hbH⟩ : ∃ x, w.heap.size = x := ⟨_, rfl⟩
  obtain ⟨bN, hbN⟩ : ∃ x, bH + 1 = x := ⟨_, rfl⟩
  rw [hbH] at hB0 hN0 B1 ⊢
  rw [hbN] at hN0 ⊢
  have HBH := Lib.hid hbH
  have HBN := Lib.hid hbN
  have hHN : bH < bN := by omega
  clear hbH hbN
  obtain ⟨i3, hi3, hz0, hz1, hz2⟩ := info_parts info3
  have HQ := Lib.hid (show ∀ wr, Below bH w wr → RowQ wr pq qs from fun wr h => hq.later (by rw [HBH.out]; exact h))
  have HQW := Lib.hid (show ∀ k : Nat, k < qs.length → ∀ b o, pq = some ⟨b, o, none⟩ → b < bH from fun k hk b o he => by obtain ⟨b', o', he', hb', _⟩ := hq.at hk; rw [he] at he'; cases he'; rw [← HBH.out]; exact hb')
  have HOK := Lib.hid hok
  have HBD := Lib.hid hbd
  clear hq hok hbd
  go_loopw [1, 13, 14, 15] (fun v1 v13 v14 v15 wr => ∃ (k : Nat) (ad : Option Addr) (cap : Nat) (x y z l0 t0 : Int), k ≤ qs.length ∧ v15 = .int .i64 (k : Int) ∧ v13 = .slice ad k cap ∧ v1 = .int .i64 l0 ∧ v14 = .int .i64 t0 ∧ Hid (eS qs li th (a, b, c) k = (l0, t0, x, y, z)) ∧ Hid (eBad win qs li th (a, b, c) k = 0) ∧ wr.ownsRow (bN + 1) 3 1 (.slice ad k cap) k ((eDs qs li th (a, b, c) k).map (Value.int .i64)) ∧ Blk wr bH 24 [.int .i64 x, .int .i64 y, .int .i64 z] ∧ Blk wr bN 24 [.int .i64 0, .int .i64 0, .int .i64 0] ∧ Below bH w wr) (fun _ _ _ v _ => qs.length - (intOf v).toNat)
  case atStart => exact ⟨0, none, 0, a, b, c, li, th, by omega, rfl, rfl, rfl, rfl, Lib.hid rfl, Lib.hid rfl, World.ownsRow_nil _ _ _ _, hB0, hN0, B1⟩
  case round =>
    clear hB0 hN0 B1
    obtain ⟨k, ad, cap, x, y, z, l0, t0, hk, rfl, rfl, rfl, rfl, HS, HB, hown, hB1, hN1, hb⟩ := hrel
    have y10 : wr.cell? ⟨bH, 0, none⟩ = some (.int .i64 x) := hB1.cell 0; have y11 : wr.cell? ⟨bH, 1, none⟩ = some (.int .i64 y) := hB1.cell 1; have y12 : wr.cell? ⟨bH, 2, none⟩ = some (.int .i64 z) := hB1.cell 2; have n10 : wr.cell? ⟨bN, 0, none⟩ = some (.int .i64 0) := hN1.cell 0; have n11 : wr.cell? ⟨bN, 1, none⟩ = some (.int .i64 0) := hN1.cell 1; have n12 : wr.cell? ⟨bN, 2, none⟩ = some (.int .i64 0) := hN1.cell 2; have f10 : wr.frozen? ⟨bN, 0, none⟩ = false := hN1.frozen 0; have g10 : wr.frozen? ⟨bH, 0, none⟩ = false := hB1.frozen 0; have f11 : wr.frozen? ⟨bN, 1, none⟩ = false := hN1.frozen 1; have g11 : wr.frozen? ⟨bH, 1, none⟩ = false := hB1.frozen 1; have f12 : wr.frozen? ⟨bN, 2, none⟩ = false := hN1.frozen 2; have g12 : wr.frozen? ⟨bH, 2, none⟩ = false := hB1.frozen 2; have l11 := hB1.lt; have l12 := hN1.lt
    have HO := Lib.hid hown
    have hb1 : ¬ bH = bN := by omega
    have hb2 : ¬ bN = bH := by omega
    obtain ⟨u1, u2, u3, u4⟩ := HBD.out k hk HB.out
    rw [HS.out] at u1 u2 u3 u4
    dsimp only at u1 u2 u3 u4
    clear hown
    by_cases hlt : k < qs.length
    · obtain ⟨b1, o1, he5, hb5, hc1⟩ := (HQ.out wr hb).at hlt
      have hb6 := HQW.out k hlt b1 o1 he5
      subst he5
      obtain ⟨c1, c2, c3⟩ := hc1 k hlt
      obtain ⟨⟨lq, ma, of⟩, hqq⟩ : ∃ q, qs.getD k (0, 0, 0) = q := ⟨_, rfl⟩
      obtain ⟨q1, q2, q3, q4, q5, q6⟩ := HOK.out k hlt lq ma of hqq
      rw [hqq] at c1 c2 c3
      dsimp only at c1 c2 c3
      have hE : eErr win qs li th (a, b, c) k = if l0 < lq then 24 else if (Rask x y z of lq).2.2 ≠ 0 ∨ win < (Rask x y z of lq).1 ∨ t0 + lq < (Rask x y z of lq).1 then 25 else 0 := by
        unfold eErr eK
        rw [HS.out, hqq]
      have hNx : eS qs li th (a, b, c) (k + 1) = (l0 - lq, t0 + lq + ma, (Rask x y z of lq).2.1) := by
        rw [eS, HS.out, hqq]
      have hDs : eDs qs li th (a, b, c) (k + 1) = eDs qs li th (a, b, c) k ++ [(Rask x y z of lq).1] := by
        rw [eDs_succ]; unfold eK; rw [HS.out, hqq]
      have qD := fun w => distance_r x y z of lq w
      have qX := fun w => next_r x y z of lq w
      generalize Rask x y z of lq = R at hE hNx hDs qD qX
      obtain ⟨d, ⟨x', y', z'⟩, re⟩ := R
      dsimp only at hE hNx hDs qD qX
      have HE := Lib.hid hE
      have HNX := Lib.hid hNx
      have HDS := Lib.hid hDs
      have i0 : (0 : Int) ≤ (k : Int) := by omega
      have i1 : (k : Int) < (qs.length : Int) := by omega
      have hqq2 := Lib.hid hqq
      clear hc1 hqq hE hNx hDs
      by_cases h1 : l0 < lq
      · have hEA : eAll win qs li th (a, b, c) = 24 := by
          have e := HE.out
          rw [if_pos h1] at e
          rw [eAll_stop hlt HB.out (by rw [e]; decide), e]
        have e1 : decide (l0 < lq) = true := by simpa using h1
        have HEA := Lib.hid hEA
        clear hEA qD qX
        go_wp2
        apply wp_det
        case det =>
          go_region
          all_goals exact ⟨rfl, rfl⟩
        case go =>
          go_wp2
          refine bodyPost_ret (v := .tuple #[.slice none 0 0, .agg #[.int .i64 x, .int .i64 y, .int .i64 z], .int .i64 24]) (by simp [results, Tryd.results67, go_sem, *]) rfl ⟨[], none, 0, x, y, z, 24, rfl, .inl rfl, HEA.out.symm, fun h => by omega, ?_⟩
          rw [HBH.out]
          repeat' (first | with_reducible exact Below.refl _ _ | with_reducible refine Below.drew ?_ | with_reducible refine below_drewN ?_ _ | with_reducible refine Below.alloc ?_ (by first | omega | (simp <;> omega)) _ | with_reducible refine Below.setCell ?_ (by first | omega | (dsimp only; omega) | (simp <;> omega)) _ | with_reducible refine Below.trans ?_ (Below.mono (by assumption) (by first | omega | (simp <;> omega))))
      · have e1 : decide (l0 < lq) = false := by simpa using h1
        have a1 : IntKind.i64.wrap (l0 - lq) = l0 - lq := IntWalk.i64_in _ (by omega)
        have a2 : IntKind.i64.wrap (t0 + lq) = t0 + lq := IntWalk.i64_in _ (by omega)
        go_wp2
        apply wp_det
        case det =>
          go_region
          all_goals exact ⟨rfl, rfl⟩
        case go =>
        go_wp2
        go_region_held3 (fun w' => w'.cell? ⟨bH, 0, none⟩ = some (.int .i64 x) ∧ w'.cell? ⟨bH, 1, none⟩ = some (.int .i64 y) ∧ w'.cell? ⟨bH, 2, none⟩ = some (.int .i64 z) ∧ w'.cell? ⟨b1, o1 + k * 3, none⟩ = some (.int .i64 lq) ∧ w'.cell? ⟨b1, o1 + k * 3 + 2, none⟩ = some (.int .i64 of)) (first | (simp [go_sem, *]; done) | go_keep) ((go_at_call 98; refine (qD _).mono ?_; rintro e w3 ⟨rfl, hb6⟩; have hs6 := hb6.size; (try simp at hs6); have y0 := (hb6.cell (p := ⟨bH, 0, none⟩) (by simp; omega)).trans (show _ = some (.int .i64 x) by simp [go_sem, *]); have y1 := (hb6.cell (p := ⟨bH, 1, none⟩) (by simp; omega)).trans (show _ = some (.int .i64 y) by simp [go_sem, *]); have y2 := (hb6.cell (p := ⟨bH, 2, none⟩) (by simp; omega)).trans (show _ = some (.int .i64 z) by simp [go_sem, *]); have y3 := (hb6.cell (p := ⟨b1, o1 + k * 3, none⟩) (by simp; omega)).trans (show _ = some (.int .i64 lq) by simp [go_sem, *]); have y4 := (hb6.cell (p := ⟨b1, o1 + k * 3 + 2, none⟩) (by simp; omega)).trans (show _ = some (.int .i64 of) by simp [go_sem, *])))
        have bw3 : Below wr.heap.size wr w3 := by repeat' (first | with_reducible exact Below.refl _ _ | with_reducible refine Below.drew ?_ | with_reducible refine below_drewN ?_ _ | with_reducible refine Below.alloc ?_ (by first | omega | (simp <;> omega)) _ | with_reducible refine Below.setCell ?_ (by first | omega | (dsimp only; omega) | (simp <;> omega)) _ | with_reducible refine Below.trans ?_ (Below.mono (by assumption) (by first | omega | (simp <;> omega))))
        have hB3 := hB1.later bw3
        have hN3 := hN1.later bw3
        have hO3 := ownsRow_later HO.out bw3
        have hbb3 : Below bH w w3 := hb.trans (bw3.mono (by omega))
        have HO3 := Lib.hid hO3
        clear qD bw3 hO3 hb6 y0 y1 y2 hB1 hN1 HO hb y10 n10 f10 g10 y11 n11 f11 g11 y12 n12 f12 g12 l11 l12 c1 c2 c3
        have y30 : w3.cell? ⟨bH, 0, none⟩ = some (.int .i64 x) := hB3.cell 0; have y31 : w3.cell? ⟨bH, 1, none⟩ = some (.int .i64 y) := hB3.cell 1; have y32 : w3.cell? ⟨bH, 2, none⟩ = some (.int .i64 z) := hB3.cell 2; have n30 : w3.cell? ⟨bN, 0, none⟩ = some (.int .i64 0) := hN3.cell 0; have n31 : w3.cell? ⟨bN, 1, none⟩ = some (.int .i64 0) := hN3.cell 1; have n32 : w3.cell? ⟨bN, 2, none⟩ = some (.int .i64 0) := hN3.cell 2; have f30 : w3.frozen? ⟨bN, 0, none⟩ = false := hN3.frozen 0; have g30 : w3.frozen? ⟨bH, 0, none⟩ = false := hB3.frozen 0; have f31 : w3.frozen? ⟨bN, 1, none⟩ = false := hN3.frozen 1; have g31 : w3.frozen? ⟨bH, 1, none⟩ = false := hB3.frozen 1; have f32 : w3.frozen? ⟨bN, 2, none⟩ = false := hN3.frozen 2; have g32 : w3.frozen? ⟨bH, 2, none⟩ = false := hB3.frozen 2; have l31 := hB3.lt; have l32 := hN3.lt
        by_cases h2 : re ≠ 0 ∨ win < d ∨ t0 + lq < d
        · have hEA : eAll win qs li th (a, b, c) = 25 := by
            have e := HE.out
            rw [if_neg (by omega), if_pos h2] at e
            rw [eAll_stop hlt HB.out (by rw [e]; decide), e]
          have h3 : (re != 0) = true ∨ (((re != 0) = false ∧ re = 0) ∧ decide (win < d) = true) ∨ (((re != 0) = false ∧ re = 0) ∧ decide (win < d) = false ∧ decide (t0 + lq < d) = true) := by
            by_cases g1 : re = 0
            · by_cases g2 : win < d
              · exact .inr (.inl ⟨⟨by simpa using g1, g1⟩, by simpa using g2⟩)
              · refine .inr (.inr ⟨⟨by simpa using g1, g1⟩, by simpa using g2, ?_⟩)
                rcases h2 with h | h | h
                · exact absurd g1 h
                · exact absurd h g2
                · simpa using h
            · exact .inl (by simpa using g1)
          have HEA := Lib.hid hEA
          clear hEA qX h2
          rcases h3 with g1 | ⟨⟨g1, rfl⟩, g2⟩ | ⟨⟨g1, rfl⟩, g2, g3⟩
          all_goals
            go_wp2
            apply wp_det
            case det =>
              go_region
              all_goals exact ⟨rfl, rfl⟩
            case go =>
              go_wp2
              refine bodyPost_ret (v := .tuple #[.slice none 0 0, .agg #[.int .i64 x, .int .i64 y, .int .i64 z], .int .i64 25]) (by simp [results, Tryd.results67, go_sem, *]) rfl ⟨[], none, 0, x, y, z, 25, rfl, .inl rfl, HEA.out.symm, fun h => by omega, ?_⟩
              rw [HBH.out]
              repeat' (first | with_reducible exact Below.refl _ _ | with_reducible refine Below.drew ?_ | with_reducible refine below_drewN ?_ _ | with_reducible refine Below.alloc ?_ (by first | omega | (simp <;> omega)) _ | with_reducible refine Below.setCell ?_ (by first | omega | (dsimp only; omega) | (simp <;> omega)) _ | with_reducible refine Below.trans ?_ (Below.mono (by assumption) (by first | omega | (simp <;> omega))))
        · have g1 : re = 0 := by
            apply Classical.byContradiction
            intro h; exact h2 (.inl h)
          subst g1
          have g2 : decide (win < d) = false := by simp; omega
          have g3 : decide (t0 + lq < d) = false := by simp; omega
          have hER : eErr win qs li th (a, b, c) k = 0 := by rw [HE.out, if_neg (by omega), if_neg h2]
          have HB2 := Lib.hid (eBad_next HB.out hER)
          clear hER h2
          go_wp2
          go_cut [75] (fun s75 wx => Blk wx bH 24 [.int .i64 x', .int .i64 y', .int .i64 z'] ∧ But (fun k => k = bH) w3 wx)
          case first =>
            go_region_with (go_at_call 22; refine (qX _).mono ?_; rintro e w4 ⟨rfl, hb7⟩; have hs7 := hb7.size; (try simp at hs7); have t5 := (show Blk _ bH 24 [.int .i64 x, .int .i64 y, .int .i64 z] by first | exact hB3 | exact hB3.later (Below.refl _ _).drew).later hb7; have t0 := t5.cell 0; have t1 := t5.cell 1; have t2 := t5.cell 2; have t3 := t5.frozen 0; have t4 := t5.frozen 1; have t6 := t5.frozen 2)
            all_goals (go_wp2_with fail; go_meet; go_light)
            all_goals (refine ⟨by first | exact ((t5.set 0 _).set 1 _).set 2 _ | exact (((t5.set 0 _).set 1 _).set 2 _).later (Below.refl _ _).drew, ?_⟩; exact (But.of_below (by repeat' (first | with_reducible exact Below.refl _ _ | with_reducible refine Below.drew ?_ | with_reducible refine below_drewN ?_ _ | with_reducible refine Below.alloc ?_ (by first | omega | (simp <;> omega)) _ | with_reducible refine Below.setCell ?_ (by first | omega | (dsimp only; omega) | (simp <;> omega)) _ | with_reducible refine Below.trans ?_ (Below.mono (by assumption) (by first | omega | (simp <;> omega)))))).trans (but_hist _ _ _ _ _))
          case rest =>
            obtain ⟨hB4, hbu⟩ := hcut
            have hN4 : Blk wc bN 24 [.int .i64 0, .int .i64 0, .int .i64 0] := hbu.block _ _ hb2 hN3
            have HO4 := Lib.hid (hbu.ownsRow HO3.out (fun k hk => by omega))
            have hB5 := hbu.below hbb3 (fun k hk => by omega) (by omega)
            have hs4 := hbu.size
            obtain ⟨b9, o9, he9, hb9, hc9⟩ := (HQ.out wc hB5).at hlt
            cases he9
            obtain ⟨_, c2, _⟩ := hc9 k hlt
            rw [hqq2.out] at c2
            dsimp only at c2
            clear hB3 hN3 hbu hbb3 HO3 hc9 qX y30 n30 f30 g30 y31 n31 f31 g31 y32 n32 f32 g32
            have a3 : IntKind.i64.wrap (t0 + lq + ma) = t0 + lq + ma := IntWalk.i64_in _ (by omega)
            have l41 := hB4.lt
            have l42 := hN4.lt
            go_wp2
            go_region_held3 (fun w' => w'.cell? ⟨b1, o1 + k * 3 + 1, none⟩ = some (.int .i64 ma)) (first | (simp [go_sem, *]; done) | go_keep) ((refine step_append_lies _ (by rfl) _ _ _ (by rfl) (bN + 1) 3 i3 _ 1 8 Tryd.underlying44 hi3 hz0 hz1 hz2 rfl (by omega) (.slice ad k cap) k _ (by rfl) ((HO4.out.alloc _).drew) ⟨wc.heap.size, 0, none⟩ 1 1 [.int .i64 d] (by rfl) (by rfl) (World.news_of_block (cs := #[.int .i64 d]) (t := 3) (fr := (0, 0)) (heap_alloc_new wc _)) (by simp [Value.oneCell']) (by omega) (by unfold maxLen; omega) (by omega) (by simp; omega) (wc.heap.size + 1) (by simp) ?_; intro gg cap2 w6 hown6 hgrow6 hat hlt6; (have r0 : w6.cell? ⟨b1, o1 + k * 3 + 1, none⟩ = some (.int .i64 ma) := by (rw [hgrow6.cell_far _ (by simp; omega) (fun hh => by have := own_base3 HO4.out _ hh.symm; simp at this; omega)]; simp [go_sem, *]))))
            go_wp2
            go_roundw
            case rel =>
              have hs6 := hgrow6.size
              simp at hs6
              have bw6 : Below (bN + 1) wc w6 := (((Below.refl _ wc).alloc (by omega) _).drew).grown hgrow6 (by simp; omega) (own_base3 HO4.out)
              refine ⟨k + 1, some ⟨gg, 0, none⟩, cap2, x', y', z', l0 - lq, t0 + lq + ma, by omega, by go_num, rfl, rfl, rfl, HNX, HB2, ?_, hB4.below bw6 (by omega), hN4.below bw6 (by omega), hB5.trans (bw6.mono (by omega))⟩
              rw [HDS.out, List.map_append]
              exact hown6
            case measure => go_light; simp [intOf] <;> omega
    · obtain rfl : k = qs.length := by omega
      have hEA : eAll win qs li th (a, b, c) = if 131072 < t0 + l0 - th then 19 else 0 := by
        unfold eAll
        rw [if_neg (by simpa using HB.out), HS.out]
      have HEA := Lib.hid hEA
      have a1 : IntKind.i64.wrap (t0 + l0) = t0 + l0 := IntWalk.i64_in _ (by omega)
      have a2 : IntKind.i64.wrap (t0 + l0 - th) = t0 + l0 - th := IntWalk.i64_in _ (by omega)
      clear hEA
      by_cases h1 : 131072 < t0 + l0 - th
      · have e1 : decide (131072 < t0 + l0 - th) = true := by simpa using h1
        have HE2 : Hid (eAll win qs li th (a, b, c) = 19) := Lib.hid (by rw [HEA.out, if_pos h1])
        clear h1
        go_wp2
        apply wp_det
        case det =>
          go_region
          all_goals exact ⟨rfl, rfl⟩
        case go =>
          go_wp2
          refine bodyPost_ret (v := .tuple #[.slice none 0 0, .agg #[.int .i64 x, .int .i64 y, .int .i64 z], .int .i64 19]) (by simp [results, Tryd.results67, go_sem, *]) rfl ⟨[], none, 0, x, y, z, 19, rfl, .inl rfl, HE2.out.symm, fun h => by omega, ?_⟩
          rw [HBH.out]
          repeat' (first | with_reducible exact Below.refl _ _ | with_reducible refine Below.drew ?_ | with_reducible refine below_drewN ?_ _ | with_reducible refine Below.alloc ?_ (by first | omega | (simp <;> omega)) _ | with_reducible refine Below.setCell ?_ (by first | omega | (dsimp only; omega) | (simp <;> omega)) _ | with_reducible refine Below.trans ?_ (Below.mono (by assumption) (by first | omega | (simp <;> omega))))
      · have e1 : decide (131072 < t0 + l0 - th) = false := by simpa using h1
        have HE2 : Hid (eAll win qs li th (a, b, c) = 0) := Lib.hid (by rw [HEA.out, if_neg h1])
        clear h1
        go_wp2
        apply wp_det
        case det =>
          go_region
          all_goals exact ⟨rfl, rfl⟩
        case go =>
          go_wp2
          refine bodyPost_ret (v := .tuple #[.slice ad qs.length cap, .agg #[.int .i64 x, .int .i64 y, .int .i64 z], .int .i64 0]) (by simp [results, Tryd.results67, go_sem, *]) rfl ⟨eDs qs li th (a, b, c) qs.length, ad, cap, x, y, z, 0, by rw [eDs_len], ?_, HE2.out.symm, fun h => ⟨rfl, by rw [HS.out]⟩, ?_⟩
          · exact Row.later (Row.of_own_slice (k := .i64) (ownsRow_setCell_below (ownsRow_setCell_below (ownsRow_setCell_below HO.out (by simp <;> omega) _) (by simp <;> omega) _) (by simp <;> omega) _)) (Below.refl _ _).drew
          · rw [HBH.out]
            repeat' (first | with_reducible exact Below.refl _ _ | with_reducible refine Below.drew ?_ | with_reducible refine below_drewN ?_ _ | with_reducible refine Below.alloc ?_ (by first | omega | (simp <;> omega)) _ | with_reducible refine Below.setCell ?_ (by first | omega | (dsimp only; omega) | (simp <;> omega)) _ | with_reducible refine Below.trans ?_ (Below.mono (by assumption) (by first | omega | (simp <;> omega))))
end Go.Proofs.YtmblpmaelglnpaaDoor
