/-
  The reference's With, walked.
-/
import Derived.Test.YtgponpjlkebjcaaRows
import Derived.Test.YtgponpjlkebjcaaNormPlain4
import Derived.Test.YtgponpjlkebjcaaNorm7
import Derived.Test.YtgponpjlkebjcaaCommon
import Derived.Deep.Light
import Derived.Shelf.Abstract
import Derived.Shelf.RegionOpen
import Derived.OwnWalkIn
import Derived.TacticsInMore
import Derived.LoopNIn
import Derived.LoopIn
import Derived.Outline
namespace Go.Proofs.Ytgponpjlkebjcaa
open Go.RowKit
set_option linter.unusedSimpArgs false
set_option linter.unusedVariables false
attribute [local go_sem] Oper.semAt_some

/-- The probabilities laid so far, and noughts behind them. -/
def lay (xs : List Int) (t : Int) (l M i : Nat) : List Int := (base xs t l).take i ++ List.replicate (M - i) 0
theorem lay_len (xs : List Int) (t : Int) (l M i : Nat) (hM : many xs = M) (h : i ≤ M) : (lay xs t l M i).length = M := by
  unfold lay
  rw [List.length_append, List.length_take, base_len, hM, List.length_replicate]
  omega
theorem lay_set (xs : List Int) (t : Int) (l M i : Nat) (hM : many xs = M) (h : i < M) : (lay xs t l M i).set i (prz t l (xs.getD i 0)) = lay xs t l M (i + 1) := by
  have hb := base_len xs t l
  have hg := base_get xs t l i (by omega)
  have hi : i < (base xs t l).length := by omega
  unfold lay
  rw [List.set_append, if_neg (by rw [List.length_take]; omega), List.length_take, show i - min i (base xs t l).length = 0 by omega, show M - i = (M - (i + 1)) + 1 by omega, List.replicate_succ, List.set_cons_zero, List.take_succ_eq_append_getElem hi, List.append_assoc]
  rw [List.getD_eq_getElem?_getD, List.getElem?_eq_getElem hi] at hg
  simp at hg
  rw [hg]
  simp
theorem lay_all (xs : List Int) (t : Int) (l M : Nat) (hM : many xs = M) : lay xs t l M M = base xs t l := by
  unfold lay
  rw [List.take_of_length_le (by rw [base_len]; omega), Nat.sub_self]
  simp
/-- What a block of probabilities weighs. -/
def bsum (w : World) (B : Nat) : Nat := match w.heap[B]? with | some (.cells vs _ _) => (wsum (vs.toList.map intOf)).toNat | _ => 0
theorem bsum_arr {w : World} {B : Nat} {t : TypeId} {xs : List Int} (h : Arr w B t xs) : bsum w B = (wsum xs).toNat := by
  unfold bsum
  rw [show w.heap[B]? = _ from h]
  have : (xs.map (Value.int .i64)).map intOf = xs := by
    rw [List.map_map]
    exact (List.map_congr_left fun _ _ => rfl).trans (List.map_id xs)
  simp only [List.toList_toArray, this]
set_option maxRecDepth 100000 in
set_option maxHeartbeats 8000000 in
theorem rwith_1 (a : Option Addr) (xs : List Int) (cap : Nat) (l t d M : Nat) (w : World) (ha : Row .i64 w a xs) (hl : xs.length ≤ 256) (hl5 : 5 ≤ l) (hl12 : l ≤ 12) (P : Int) (HP : Hid ((2 : Int) ^ l = P)) (gP : wrap64 ((2 : Int) ^ l) = P) (hdP : (d : Int) ≤ P)
    (HR : Hid (rng xs = true)) (HT : Hid ((t : Int) = xs.sum)) (ht0 : 0 < t) (ht1 : t ≤ 1099511627776) (HC : Hid (cchk xs = 0)) (HD : Hid ((d : Int) = ((occ 0 xs).length : Int))) (HM : Hid (many xs = M)) (hM0 : 0 < M) (hM : M ≤ 256)
    (q1 : ∀ w, Row .i64 w a xs → Calls Try.prog 62 #[.slice a xs.length cap] w fun e w' => e = .returned (.tuple #[.int .i64 (t : Int), .int .i64 (d : Int), .int .i64 0]) ∧ Below w.heap.size w w')
    (q2 : ∀ w, Row .i64 w a xs → Calls Try.prog 30 #[.slice a xs.length cap] w fun e w' => e = .returned (.tuple #[.int .i64 ((M : Int) - 1), .int .i64 0]) ∧ Below w.heap.size w w') :
    Calls Try.prog 49 #[.slice a xs.length cap, .int .i64 (l : Int)] w (DistPost (((l : Int), dist0 xs l), 0) w) := by
  have hmk : ∀ W, (Instr.makeSlice 22 (.int .i64 (M : Int)) (.int .i64 (M : Int))).run Try.prog W = _ := fun W => mk_ints M (by omega) W
  have g1 : ¬ (l : Int) < 5 := by omega
  have g2 : ¬ (12 : Int) < (l : Int) := by omega
  have g3 : ¬ P < (d : Int) := by omega
  have g4 : decide ((l : Int) < 5) = false := decide_eq_false g1
  have g5 : decide ((12 : Int) < (l : Int)) = false := decide_eq_false g2
  have g6 : decide (P < (d : Int)) = false := decide_eq_false g3
  go_enter Try.func49, Try.ntmps49
  go_wp2_with (first | (go_at_call 62; refine (q1 _ (ha.later (by repeat' (first | exact Below.refl _ _ | refine Below.drew ?_ | refine below_drewN ?_ _ | refine Below.alloc ?_ (by first | omega | (simp <;> omega)) _ | refine Below.setCell ?_ (by first | omega | (simp <;> omega)) _ | refine Below.trans ?_ (Below.mono (by assumption) (by first | omega | (simp <;> omega))))))).mono ?_; rintro e w1 ⟨rfl, hb1⟩; (have hk1 := Lib.hid (Blk.later (Blk.new w 51 #[.int .i64 0, .slice none 0 0]) hb1)); have hs1 := hb1.size; (try simp at hs1)) | (go_at_call 30; refine (q2 _ (ha.later (by repeat' (first | exact Below.refl _ _ | refine Below.drew ?_ | refine below_drewN ?_ _ | refine Below.alloc ?_ (by first | omega | (simp <;> omega)) _ | refine Below.setCell ?_ (by first | omega | (simp <;> omega)) _ | refine Below.trans ?_ (Below.mono (by assumption) (by first | omega | (simp <;> omega))))))).mono ?_; rintro e w2 ⟨rfl, hb2⟩; (have hk2 := Lib.hid (Blk.later hk1.out hb2)); have hs2 := hb2.size))
  have hbw : Below w.heap.size w (w2.alloc (.cells (madeCells #[.int .i64 0] M) 3)) := by
    repeat' (first | exact Below.refl _ _ | refine Below.drew ?_ | refine below_drewN ?_ _ | refine Below.alloc ?_ (by first | omega | (simp <;> omega)) _ | refine Below.setCell ?_ (by first | omega | (simp <;> omega)) _ | refine Below.trans ?_ (Below.mono (by assumption) (by first | omega | (simp <;> omega))))
  have har : Arr (w2.alloc (.cells (madeCells #[.int .i64 0] M) 3)) w2.heap.size 3 (lay xs t l M 0) := by
    unfold lay
    simpa using Arr.made w2 M
  have hsz0 : w.heap.size < w2.heap.size := by omega
  obtain ⟨W0, hW0⟩ : ∃ W0, w2.alloc (.cells (madeCells #[.int .i64 0] M) 3) = W0 := ⟨_, rfl⟩
  obtain ⟨B, hB⟩ : ∃ B, w2.heap.size = B := ⟨_, rfl⟩
  have hsW : W0.heap.size = B + 1 := by rw [← hW0, ← hB]; simp
  have hk3 := Blk.alloc hk2.out (.cells (madeCells #[.int .i64 0] M) 3)
  rw [hW0] at hbw har hk3 ⊢
  have HK3 := Lib.hid hk3
  clear hk1 hk2 hk3
  rw [hB] at har hsz0 ⊢
  clear hW0 hB hb1 hb2 hs1 hs2 q1 q2 hmk
  go_loopw [13] (fun v wr => ∃ i : Nat, v = .int .i64 (i : Int) ∧ i ≤ M ∧ Arr wr B 3 (lay xs t l M i) ∧ Below B W0 wr) (fun v _ => M - (intOf v).toNat)
  case atStart => exact ⟨0, rfl, by omega, har, Below.refl _ _⟩
  case round =>
    clear har
    obtain ⟨i, rfl, hi, har, hb⟩ := hrel
    by_cases him : i < M
    · have hmx := many_le xs
      have hix : i < xs.length := by have := HM.out; omega
      have hbr : Below w.heap.size w wr := hbw.trans (hb.mono (by omega))
      obtain ⟨b1, o1, rfl, hb1, _⟩ := ha.at hix
      obtain ⟨b2, o2, he2, _, hc1⟩ := (ha.later hbr).at hix
      cases he2
      have n1 : ¬ b1 = B := by omega
      have n2 : ¬ B = b1 := by omega
      have hBr : B < wr.heap.size := by have := hb.size; omega
      have c1 := hc1 i hix
      obtain ⟨y, hy⟩ : ∃ y, xs.getD i 0 = y := ⟨_, rfl⟩
      have y0 := rng_get HR.out i
      have y1 := sum_ge xs i HR.out hix
      have hls := Lib.hid (lay_set xs t l M i HM.out him)
      rw [hy] at c1 y0 y1 hls
      rw [← HT.out] at y1
      have qS := fun w => share_s y t l w (by omega) (by omega) y0 (by omega) hl12
      have p0 : (0 : Int) ≤ (i : Int) := by omega
      have p1 : (i : Int) < (xs.length : Int) := by omega
      have p2 : (i : Int) < (M : Int) := by omega
      have p3 : ¬ (M : Int) - 1 < (i : Int) := by omega
      have p4 : (i : Int) ≤ (M : Int) - 1 := by omega
      have hll := lay_len xs t l M i HM.out hi
      have s0 := shr_nn (t := t) (l := l) y0 (by omega)
      have hpz : prz t l y = if 0 < y then (if shr y t l = 0 then -1 else shr y t l) else 0 := rfl
      have hz : y = 0 → shr y t l = 0 := fun h => by rw [h]; simp [shr]
      obtain ⟨v, hv⟩ : ∃ v, shr y t l = v := ⟨_, rfl⟩
      rw [hv] at qS s0 hpz hz
      clear hc1 hy hv
      have HA := Lib.hid har
      have HPZ := Lib.hid hpz
      have HZ := Lib.hid hz
      clear har hpz hz
      have HLL := Lib.hid hll
      clear hll
      have h3 : (0 < y ∧ v = 0 ∧ (v == 0) = true ∧ decide (0 < y) = true ∧ prz t l y = -1) ∨ ((v == 0) = false ∧ prz t l y = v) ∨ (¬ 0 < y ∧ (v == 0) = true ∧ decide (0 < y) = false ∧ prz t l y = v) := by
        have e1 := HPZ.out
        have e2 := HZ.out
        by_cases h0 : 0 < y
        · rw [if_pos h0] at e1
          by_cases h1 : v = 0
          · left; rw [if_pos h1] at e1; exact ⟨h0, h1, by simp [h1], by simp [h0], e1⟩
          · right; left; rw [if_neg h1] at e1; exact ⟨by simp [h1], e1⟩
        · right; right; rw [if_neg h0] at e1
          have e3 := e2 (by omega)
          exact ⟨h0, by simp [e3], by simp; omega, by rw [e1, e3]⟩
      rcases h3 with ⟨u0, u1, u2, u3, hpr⟩ | ⟨u2, hpr⟩ | ⟨u0, u2, u3, hpr⟩
      · have HPR := Lib.hid hpr
        clear hpr u1
        go_wp2_with (go_at_call 69; refine (qS _).mono ?_; rintro e w4 ⟨rfl, hb4⟩; have hs4 := hb4.size; (have hA4 := Blk.later HA.out hb4); (have c4 := Arr.get (xs := lay xs t l M i) hA4 (i := i) (by rw [HLL.out]; exact him)); (have f4 := Blk.frozen hA4 i); (have c5 := (hb4.cell (p := ⟨b1, o1 + i, none⟩) (by simp; omega)).trans c1); (have HA4 := Lib.hid hA4); clear hA4)
        go_roundw
        case rel =>
          refine ⟨i + 1, by go_num, by omega, ?_, ((hb.trans (hb4.mono (by omega))).setCell (by simp) _).setCell (by simp) _⟩
          have h9 := Arr.set (Arr.set (xs := lay xs t l M i) HA4.out i v) i (-1)
          have h8 := hls.out
          rw [HPR.out] at h8
          rw [List.set_set, h8] at h9
          exact h9
        case measure => go_light; simp [intOf] <;> omega
      · have HPR := Lib.hid hpr
        clear hpr
        go_wp2_with (go_at_call 69; refine (qS _).mono ?_; rintro e w4 ⟨rfl, hb4⟩; have hs4 := hb4.size; (have hA4 := Blk.later HA.out hb4); (have c4 := Arr.get (xs := lay xs t l M i) hA4 (i := i) (by rw [HLL.out]; exact him)); (have f4 := Blk.frozen hA4 i); (have c5 := (hb4.cell (p := ⟨b1, o1 + i, none⟩) (by simp; omega)).trans c1); (have HA4 := Lib.hid hA4); clear hA4)
        go_roundw
        case rel =>
          refine ⟨i + 1, by go_num, by omega, ?_, (hb.trans (hb4.mono (by omega))).setCell (by simp) _⟩
          have h9 := Arr.set (xs := lay xs t l M i) HA4.out i v
          have h8 := hls.out
          rw [HPR.out] at h8
          rw [h8] at h9
          exact h9
        case measure => go_light; simp [intOf] <;> omega
      · have HPR := Lib.hid hpr
        clear hpr
        go_wp2_with (go_at_call 69; refine (qS _).mono ?_; rintro e w4 ⟨rfl, hb4⟩; have hs4 := hb4.size; (have hA4 := Blk.later HA.out hb4); (have c4 := Arr.get (xs := lay xs t l M i) hA4 (i := i) (by rw [HLL.out]; exact him)); (have f4 := Blk.frozen hA4 i); (have c5 := (hb4.cell (p := ⟨b1, o1 + i, none⟩) (by simp; omega)).trans c1); (have HA4 := Lib.hid hA4); clear hA4)
        go_roundw
        case rel =>
          refine ⟨i + 1, by go_num, by omega, ?_, (hb.trans (hb4.mono (by omega))).setCell (by simp) _⟩
          have h9 := Arr.set (xs := lay xs t l M i) HA4.out i v
          have h8 := hls.out
          rw [HPR.out] at h8
          rw [h8] at h9
          exact h9
        case measure => go_light; simp [intOf] <;> omega
    · obtain rfl : M = i := by omega
      rw [lay_all _ _ _ _ HM.out] at har
      have hbr : Below w.heap.size w wr := hbw.trans (hb.mono (by omega))
      obtain ⟨t', ht'⟩ : ∃ t' : Int, (t : Int) = t' := ⟨_, rfl⟩
      have hts : t' = xs.sum := by rw [← ht']; exact HT.out
      have ht0' : 0 < xs.sum := by omega
      rw [ht', hts] at har
      have hbl := base_len xs xs.sum l
      rw [HM.out] at hbl
      have hbd : ∀ k, k < (base xs xs.sum l).length → (base xs xs.sum l).getD k 0 ≤ 1000000 := by
        intro k hk
        rw [hbl] at hk
        have h1 := base_le (l := l) HR.out ht0' (show k < many xs by have := HM.out; omega)
        have h2 := shr_bd (l := l) (rng_get HR.out k) (sum_ge xs k HR.out (by have := many_le xs; have := HM.out; omega)) ht0' hl12
        omega
      have hol : (occ 0 xs).length ≤ xs.length := by rw [occ_len]; exact List.length_filter_le _ _
      have hsb := (sAt_bd (l := l) HR.out ht0' hl12 _ (Nat.le_refl _)).2
      rw [sAt_all] at hsb
      have hwn := wsum_nn (base xs xs.sum l)
      have hd0 : dist0 xs l = if 0 < (2 : Int) ^ l - wsum (base xs xs.sum l) then give xs (base xs xs.sum l) ((2 : Int) ^ l - wsum (base xs xs.sum l)) else decs (wsum (base xs xs.sum l) - (2 : Int) ^ l).toNat (base xs xs.sum l) := rfl
      rw [HP.out] at hd0
      have HD0 := Lib.hid hd0
      have HBD := Lib.hid hbd
      clear hd0 hbd
      have hcz : cz (base xs xs.sum l) ≤ P := by rw [base_cz, ← HD.out]; exact hdP
      have hge : ∀ i, i < (base xs xs.sum l).length → -1 ≤ (base xs xs.sum l).getD i 0 := fun i hi => base_ge HR.out ht0' hl12 i (by have := HM.out; omega)
      have hinv : ∀ j : Nat, P + (j : Int) ≤ wsum (base xs xs.sum l) → wsum (decs j (base xs xs.sum l)) = wsum (base xs xs.sum l) - j ∧ (∀ i, i < (base xs xs.sum l).length → -1 ≤ (decs j (base xs xs.sum l)).getD i 0) := fun j hj => by
        obtain ⟨i1, _, i3, _⟩ := decs_inv P j _ hcz hj hge
        exact ⟨i1, i3⟩
      clear hcz hge
      generalize base xs xs.sum l = bs at *
      have hrow : Row .i64 wr (some ⟨B, 0, none⟩) bs := Blk.row har
      have qS := fun w h => rsum_s (some ⟨B, 0, none⟩) bs M w h (by omega) HBD.out
      rw [hbl] at qS
      have hwg := fun h => wgh_le_sum bs (amx xs) h
      generalize wsum bs = W at *
      have HINV := Lib.hid hinv
      clear hinv
      have hlst : 0 ≤ lst xs := by have := HM.out; unfold many at this; omega
      have hrow0 := ha.later hbr
      have hgr := gr_amx HR.out (show 0 < xs.length by have := many_le xs; have := HM.out; omega)
      obtain ⟨am1, _⟩ := amx_many HR.out ht0'
      have qG := fun w h => rgreatest_1 a xs cap w h (by omega) HC.out hlst
      rw [hgr] at qG
      have hspec := (dist_spec HR.out ht0' hl12 (by rw [HP.out, ← HD.out]; exact hdP)).1
      rw [HP.out] at hspec
      by_cases hmis : 0 < P - W
      · have hd1 : dist0 xs l = give xs bs (P - W) := by rw [HD0.out, if_pos hmis]
        rw [hd1] at hspec
        have ha1 : amx xs < bs.length := by have := HM.out; omega
        have hw1 := hwg ha1
        have hw2 := wgh_nn (bs.getD (amx xs) 0)
        obtain ⟨p, hp⟩ : ∃ p, bs.getD (amx xs) 0 = p := ⟨_, rfl⟩
        rw [hp] at hw1 hw2
        have p0 : (0 : Int) ≤ ((amx xs : Nat) : Int) := by omega
        have p1 : ((amx xs : Nat) : Int) < (M : Int) := by omega
        have hPP : P ≤ 4096 := by rw [← HP.out]; exact (pow_le12 l hl12).2
        have e1 : wrap64 (P - W) = P - W := IntWalk.wrap64_in _ (by omega)
        have e2 : wrap64 (wgh p + (P - W)) = wgh p + (P - W) := IntWalk.wrap64_in _ (by omega)
        have hgl : (give xs bs (P - W)).length = M := by unfold give; rw [List.length_set]; exact hbl
        have qT := fun w h => rsum_s (some ⟨B, 0, none⟩) (give xs bs (P - W)) M w h (by omega) (fun k hk => by
          have h1 := wgh_le_sum (give xs bs (P - W)) k hk
          have h2 := wgh_c ((give xs bs (P - W)).getD k 0)
          omega)
        rw [hgl, hspec] at qT
        have hgv : bs.set (amx xs) (p + 0 * p) = bs.set (amx xs) (p + 0 * p) := rfl
        have HP1 := Lib.hid hp
        have HDD := Lib.hid hd1
        have HGL := Lib.hid hgl
        have HAR := Lib.hid har
        have HSP := Lib.hid hspec
        clear hd1 hspec hwg hp har hgv hgl
        go_wp2_with (first | (go_at_call 70; refine (qS _ hrow).mono ?_; rintro e w4 ⟨rfl, rfl⟩) | (go_at_call 32; refine (qG _ hrow0).mono ?_; rintro e w5 ⟨rfl, hb5⟩; have hs5 := hb5.size; (have hA5 := Blk.later HAR.out hb5); (have c5 := Arr.get (xs := bs) hA5 (i := amx xs) ha1); (rw [HP1.out] at c5); (have f5 := Blk.frozen hA5 (amx xs)); (have HA5 := Lib.hid hA5); clear hA5) | (go_at_call 71; refine (value_s _ _).mono ?_; rintro e w6 ⟨rfl, rfl⟩))
        have hA6 : Arr (w6.setCell ⟨B, amx xs, none⟩ (.int .i64 (wgh p + (P - W)))) B 3 (give xs bs (P - W)) := by
          have h9 := Arr.set HA5.out (amx xs) (wgh p + (P - W))
          unfold give
          rw [HP1.out]
          exact h9
        have hrow6 := Blk.row hA6
        have hk6 := Blk.other (Blk.later (Blk.below HK3.out hb (by omega)) hb5) (a := ⟨B, amx xs, none⟩) (by simp; omega) (.int .i64 (wgh p + (P - W)))
        have z0 : (w6.setCell ⟨B, amx xs, none⟩ (.int .i64 (wgh p + (P - W)))).cell? ⟨w.heap.size, 0, none⟩ = some (.int .i64 0) := Blk.cell hk6 0
        have z1 : (w6.setCell ⟨B, amx xs, none⟩ (.int .i64 (wgh p + (P - W)))).cell? ⟨w.heap.size, 1, none⟩ = some (.slice none 0 0) := Blk.cell hk6 1
        have z2 := Blk.frozen hk6 0
        have z3 := Blk.frozen hk6 1
        have hb6 : Below w.heap.size w (w6.setCell ⟨B, amx xs, none⟩ (.int .i64 (wgh p + (P - W)))) := (hbr.trans (hb5.mono hbr.size)).setCell (by simp; omega) _
        obtain ⟨V, hV⟩ : ∃ V, w6.setCell ⟨B, amx xs, none⟩ (.int .i64 (wgh p + (P - W))) = V := ⟨_, rfl⟩
        rw [hV] at z0 z1 z2 z3 hb6 hrow6 ⊢
        clear hA6 hk6 hV qS qG hrow hrow0
        refine wp_loop_rounds 1 ?_
        rw [rounds_succ]
        go_wp2_with (go_at_call 70; refine (qT _ hrow6).mono ?_; rintro e w7 ⟨rfl, rfl⟩)
        go_light
        refine bodyPost_ret (v := .tuple #[.agg #[.int .i64 (l : Int), .slice (some ⟨B, 0, none⟩) M M], .int .i64 0]) (by simp [results, Try.results49, go_sem, *]) rfl ?_
        unfold DistPost
        rw [HDD.out]
        dsimp only
        rw [HGL.out]
        refine ⟨some ⟨B, 0, none⟩, M, rfl, fun g hg => by cases hg; exact Nat.le_of_lt hsz0, ?_, ?_⟩
        · exact (hrow6.other (fun g hg => by cases hg; exact Nat.ne_of_lt hsz0) _).other (fun g hg => by cases hg; exact Nat.ne_of_lt hsz0) _
        · exact (hb6.setCell (Nat.le_refl _) _).setCell (Nat.le_refl _) _
      · have hd1 : dist0 xs l = decs (W - P).toNat bs := by rw [HD0.out, if_neg hmis]
        have hW9 : W ≤ 1048576 := by omega
        clear HD0 hwg qG hspec hgr am1 hlst hsb hwn hrow0
        obtain ⟨K, hK⟩ : ∃ K, (W - P).toNat = K := ⟨_, rfl⟩
        rw [hK] at hd1
        have hKW : P + (K : Int) = W := by omega
        clear hK
        have hdl : ∀ j, (decs j bs).length = M := fun j => by rw [decs_len]; exact hbl
        have hPP : 0 ≤ P ∧ P ≤ 4096 := by rw [← HP.out]; exact pow_le12 l hl12
        obtain ⟨hP1, hP2⟩ := hPP
        have d87 : decide (W < P) = false := decide_eq_false (by omega)
        have d54 : decide ((M : Int) ≤ (M : Int) - 1) = false := decide_eq_false (by omega)
        have e1 : wrap64 (P - W) = P - W := IntWalk.wrap64_in _ (by omega)
        have d1 : decide (0 < P - W) = false := decide_eq_false hmis
        have HDD := Lib.hid hd1
        have HDL := Lib.hid hdl
        clear hd1 hdl
        have hk4 := Blk.below HK3.out hb (by omega)
        have HAR := Lib.hid har
        have qD : ∀ (j : Nat) (w : World), j ≤ K → Row .i64 w (some ⟨B, 0, none⟩) (decs j bs) → Calls Try.prog 70 #[.slice (some ⟨B, 0, none⟩) M M] w fun e w' => e = .returned (.int .i64 (W - (j : Int))) ∧ w' = w := fun j w hj h => by
          have h1 := rsum_s (some ⟨B, 0, none⟩) (decs j bs) M w h (by rw [HDL.out]; omega) (fun k hk => Int.le_trans (decs_le j bs k) (HBD.out k (by rw [HDL.out] at hk; omega)))
          rw [HDL.out, (HINV.out j (by omega)).1] at h1
          exact h1
        have HK4 := Lib.hid hk4
        clear hk4 har HK3
        go_wp2_with (go_at_call 70; refine (qS _ hrow).mono ?_; rintro e w4 ⟨rfl, rfl⟩)
        clear qS hrow e1 d1
        obtain ⟨V, hV⟩ : ∃ V, V = w4 := ⟨_, rfl⟩
        subst hV
        go_loopw [18] (fun v wx => ∃ j : Nat, j ≤ K ∧ Arr wx B 3 (decs j bs) ∧ Below B V wx) (fun _ wx => bsum wx B)
        case atStart => exact ⟨0, by omega, HAR.out, Below.refl _ _⟩
        case round =>
          clear HAR
          obtain ⟨j, hj, hA, hbj⟩ := hrel
          have hrj := Blk.row hA
          by_cases hjK : j < K
          · have e1 : P < W - (j : Int) := by omega
            have d1 : decide (P < W - (j : Int)) = true := decide_eq_true e1
            have qj := qD j _ hj hrj
            clear qD
            go_wp2_with (go_at_call 70; refine qj.mono ?_; rintro e w5 ⟨rfl, rfl⟩)
            clear qj hrj e1 d1
            obtain ⟨V2, hV2⟩ : ∃ V2, V2 = w5 := ⟨_, rfl⟩
            subst hV2
            have hbt := (HINV.out j (by omega)).2
            have hdt : ∀ k, k < M → (decs j bs).getD k 0 ≤ 1000000 := fun k hk => Int.le_trans (decs_le j bs k) (HBD.out k (by omega))
            have hsum := (HINV.out j (by omega)).1
            have hsum2 := (HINV.out (j + 1) (by omega)).1
            have hat := decs_at bs j
            have hlj := HDL.out j
            generalize decs j bs = ps at *
            have HA := Lib.hid hA
            have HBT := Lib.hid hbt
            have HDT := Lib.hid hdt
            have HSM := Lib.hid hsum
            have HSN := Lib.hid hsum2
            have HAT := Lib.hid hat
            have HLJ := Lib.hid hlj
            clear hA hbt hdt hsum hsum2 hat hlj
            go_loopw [18, 19] (fun b v wy => ∃ k m : Nat, k ≤ M ∧ v = .int .i64 (k : Int) ∧ b = .int .i64 (m : Int) ∧ Hid (amF ps k = m) ∧ (m < k ∨ (k = 0 ∧ m = 0)) ∧ Below V2.heap.size V2 wy) (fun _ v _ => M - (intOf v).toNat)
            case atStart => exact ⟨0, 0, by omega, rfl, rfl, rfl, .inr ⟨rfl, rfl⟩, Below.refl _ _⟩
            case round =>
              obtain ⟨k, m, hk, rfl, rfl, HM2, hm, hb2⟩ := hrel
              by_cases hkM : k < M
              · have hmM : m < M := by omega
                have hA2 := Blk.later HA.out hb2
                have c1 := Arr.get (xs := ps) hA2 (i := k) (by rw [HLJ.out]; exact hkM)
                have c2 := Arr.get (xs := ps) hA2 (i := m) (by rw [HLJ.out]; exact hmM)
                clear hA2
                obtain ⟨x, hx⟩ : ∃ x, ps.getD k 0 = x := ⟨_, rfl⟩
                obtain ⟨y, hy⟩ : ∃ y, ps.getD m 0 = y := ⟨_, rfl⟩
                have hsu : amF ps (k + 1) = if y < x then k else m := by
                  rw [← hx, ← hy, ← HM2.out]
                  rfl
                rw [hx] at c1
                rw [hy] at c2
                have HSU := Lib.hid hsu
                have i0 : (0 : Int) ≤ (k : Int) := by omega
                have i1 : (k : Int) < (M : Int) := by omega
                have i2 : (0 : Int) ≤ (m : Int) := by omega
                have i3 : (m : Int) < (M : Int) := by omega
                have i4 : (k : Int) ≤ (M : Int) - 1 := by omega
                clear hx hy hsu
                by_cases hyx : y < x
                · have HS2 : Hid (amF ps (k + 1) = k) := Lib.hid (by rw [HSU.out, if_pos hyx])
                  have d1 : decide (y < x) = true := decide_eq_true hyx
                  go_wp2
                  go_quiet (fail)
                  go_wp2
                  go_roundw
                  case rel => exact ⟨k + 1, k, by omega, by go_num, rfl, HS2, by omega, below_drewN hb2 _⟩
                  case measure => go_light; simp [intOf] <;> omega
                · have HS2 : Hid (amF ps (k + 1) = m) := Lib.hid (by rw [HSU.out, if_neg hyx])
                  have d1 : decide (y < x) = false := decide_eq_false hyx
                  go_wp2
                  go_quiet (fail)
                  go_wp2
                  go_roundw
                  case rel => exact ⟨k + 1, m, by omega, by go_num, rfl, HS2, by omega, below_drewN hb2 _⟩
                  case measure => go_light; simp [intOf] <;> omega
              · obtain rfl : M = k := by omega
                have hmM : m < M := by omega
                have hA2 := Blk.later HA.out hb2
                have c2 := Arr.get (xs := ps) hA2 (i := m) (by rw [HLJ.out]; exact hmM)
                have f2 := Blk.frozen hA2 m
                have HA2 := Lib.hid hA2
                clear hA2
                have b1 := HBT.out m (by omega)
                have b2 := HDT.out m hmM
                obtain ⟨y, hy⟩ : ∃ y, ps.getD m 0 = y := ⟨_, rfl⟩
                rw [hy] at c2 b1 b2
                have HY := Lib.hid hy
                have e2 : wrap64 (y - 1) = y - 1 := IntWalk.wrap64_in _ (by omega)
                have i2 : (0 : Int) ≤ (m : Int) := by omega
                have i3 : (m : Int) < (M : Int) := by omega
                have i4 : ¬ (M : Int) ≤ (M : Int) - 1 := by omega
                have hsm : m < w.heap.size + B + 1 ∨ True := .inr trivial
                clear hy hsm
                go_wp2
                go_roundw
                case rel =>
                  have h9 := Arr.set (xs := ps) HA2.out m (y - 1)
                  have h8 := HAT.out m (by unfold amx; rw [HLJ.out]; exact HM2.out)
                  rw [HY.out] at h8
                  rw [← h8] at h9
                  exact ⟨j + 1, by omega, h9, (hbj.trans (hb2.mono (by have := hbj.size; have := hb.size; omega))).setCell (Nat.le_refl _) _⟩
                case measure =>
                  have h9 := Arr.set (xs := ps) HA2.out m (y - 1)
                  have h8 := HAT.out m (by unfold amx; rw [HLJ.out]; exact HM2.out)
                  rw [HY.out] at h8
                  rw [← h8] at h9
                  rw [bsum_arr h9, bsum_arr HA.out, HSN.out, HSM.out]
                  omega
          · obtain rfl : K = j := by omega
            have e1 : ¬ P < W - (K : Int) := by omega
            have d1 : decide (P < W - (K : Int)) = false := decide_eq_false e1
            have qj := qD K _ hj hrj
            have hk6 := Blk.below HK4.out hbj (by omega)
            have z0 := Blk.cell hk6 0
            have z1 := Blk.cell hk6 1
            have z2 := Blk.frozen hk6 0
            have z3 := Blk.frozen hk6 1
            simp only [List.getElem?_cons_zero, List.getElem?_cons_succ] at z0 z1
            have hb6 := hbr.trans (hbj.mono (Nat.le_of_lt hsz0))
            have HGL := HDL.out K
            have HROW := Lib.hid hrj
            clear qD hk6 hA hrj
            go_wp2_with (go_at_call 70; refine qj.mono ?_; rintro e w5 ⟨rfl, rfl⟩)
            go_light
            refine bodyPost_ret (v := .tuple #[.agg #[.int .i64 (l : Int), .slice (some ⟨B, 0, none⟩) M M], .int .i64 0]) (by simp [results, Try.results49, go_sem, *]) rfl ?_
            unfold DistPost
            rw [HDD.out]
            dsimp only
            rw [HGL]
            refine ⟨some ⟨B, 0, none⟩, M, rfl, fun g hg => by cases hg; exact Nat.le_of_lt hsz0, ?_, ?_⟩
            · exact (HROW.out.other (fun g hg => by cases hg; exact Nat.ne_of_lt hsz0) _).other (fun g hg => by cases hg; exact Nat.ne_of_lt hsz0) _
            · exact (hb6.setCell (Nat.le_refl _) _).setCell (Nat.le_refl _) _
end Go.Proofs.Ytgponpjlkebjcaa
