/-
  ParseEager, walked.
-/
import Derived.Test.YtammacofhdbgcaaRows
import Derived.Test.YtammacofhdbgcaaParseParams
import Derived.Test.YtammacofhdbgcaaParseMore
import Derived.Test.YtammacofhdbgcaaEagerPlain
import Derived.Test.YtammacofhdbgcaaGKit
import Derived.Test.YtammacofhdbgcaaParseLaw1
import Derived.Test.YtammacofhdbgcaaGBase
import Derived.Deep.Light
import Derived.Shelf.Abstract
import Derived.Shelf.RegionOpen
import Derived.OwnWalkIn
import Derived.TacticsInMore
import Derived.LoopNIn
import Derived.LoopIn
import Derived.Outline
import Derived.IntWalk
import Derived.WalkMore
namespace Go.Proofs.Ytammacofhdbgcaa
open Go.RowKit
set_option linter.unusedSimpArgs false
set_option linter.unusedVariables false
open Go.Shelf
attribute [local go_sem] eq23 Oper.semAt_some

set_option maxRecDepth 100000 in
set_option maxHeartbeats 8000000 in
theorem parseEager_t (a : Option Addr) (xs : List Int) (cap : Nat) (lv : Int) (w : World) (ha : Row .i64 w a xs) (hl : xs.length ≤ 9223372036854775807) :
    Calls Try.prog 11 #[.slice a xs.length cap, .int .i64 lv] w fun e' w' => e' = .returned (.bool true) ∧ Below w.heap.size w w' := by
  have qM := fun w => modS lv 3 (by omega) (by omega) w
  obtain ⟨k, hk⟩ : ∃ k, lv % 3 = k := ⟨_, rfl⟩
  rw [hk] at qM
  have k0 : 0 ≤ k := by omega
  have k3 : k < 3 := by omega
  obtain ⟨dp, hdp⟩ : ∃ dp, depthT (1 + k) = dp := ⟨_, rfl⟩
  have hd1 : 1 ≤ dp ∧ dp ≤ 64 := by
    have : k = 0 ∨ k = 1 ∨ k = 2 := by omega
    rcases this with rfl | rfl | rfl <;> (rw [← hdp]; decide)
  have hlz : lazyT (1 + k) = 0 := by unfold lazyT; rw [if_pos (by omega)]
  have hpk : pOk (1 + k) 10 16 0 := by unfold pOk; omega
  have qD := fun w => rpdepth_p (1 + k) 10 16 0 false false w
  have hRD : Rpdepth (1 + k) 10 16 0 = (dp, 0) := by unfold Rpdepth; rw [if_pos hpk, hdp]
  rw [hRD] at qD
  dsimp only at qD
  obtain ⟨L, hLL⟩ : ∃ L, 1 + k = L := ⟨_, rfl⟩
  rw [hLL] at hdp hlz hpk qD
  have hw1 : IntKind.i64.wrap (1 + k) = L := by rw [← hLL]; exact IntWalk.i64_in _ (by omega)
  clear hk
  go_enter Try.func11, Try.ntmps11
  go_wp2_with (first | (go_at_call 41; refine (input_k a xs cap 150 _ ha hl (by omega)).mono ?_; rintro en w1 ⟨s, rfl, hs0, hb1⟩; have hs : s.size ≤ 150 := hs0; have qB := fun w => block_p s 0 (s.size : Int) L 10 16 0 0 0 0 false false w (by omega); clear hs0) | (go_at_call 22; (with_reducible refine (qM _).mono ?_); rintro en wm ⟨rfl, hwm⟩; (obtain rfl : w1 = wm := hwm.symm)))
  have hP1 : Pblk s 0 (s.size : Int) L 10 16 0 0 0 0 = (pblock s 0 s.size 10 dp 0 0 0 0, 0) := by
    unfold Pblk
    rw [if_neg (by rw [pask_zero hpk (by omega) (by omega) (by omega) (by omega) (by omega) (by decide)]; simp), hdp, hlz]
    rfl
  have hln := pblk_len s 0 (s.size : Int) L 10 16 0 0 0 0
  rw [hP1] at qB hln
  have hEP := fun qs t r h => eager_rat s 10 dp hd1.1 hd1.2 (by omega) (by omega) (by omega) qs t r h
  clear hP1 qM hdp hlz hpk
  generalize pblock s 0 s.size 10 dp 0 0 0 0 = R at qB hln hEP
  obtain ⟨qs, t, x', y', z'⟩ := R
  unfold BlkPost at qB
  dsimp only at qB hln
  obtain ⟨P, p0, p1, p2, p3⟩ := hEP qs t _ rfl
  clear hEP
  have HP2 := Lib.hid p2
  have HP3 := Lib.hid p3
  have HP1 := Lib.hid p1
  have HP0 := Lib.hid p0
  clear p0 p1 p2 p3
  have hz1 := hb1.size
  have hBx := (by simpa using Blk.new w1 57 #[.int .i64 L, .int .i64 10, .int .i64 16, .int .i64 0, .bool false, .bool false] : Blk (w1.alloc (.cells #[.int .i64 L, .int .i64 10, .int .i64 16, .int .i64 0, .bool false, .bool false] 57)) w1.heap.size 57 [.int .i64 L, .int .i64 10, .int .i64 16, .int .i64 0, .bool false, .bool false])
  go_wp2_with (first | (go_at_call 36; refine (qB _).mono ?_; rintro en WB ⟨pa, ca, rfl, hga, hra, HC⟩; (have hBx2 := hBx.later HC); have c0 := hBx2.cell 0; have c1 := hBx2.cell 1; have c2 := hBx2.cell 2; have c3 := hBx2.cell 3; have c4 := hBx2.cell 4; have c5 := hBx2.cell 5; have lB := hBx2.lt) | (go_at_call 44; refine (qD _).mono ?_; rintro en WD ⟨rfl, hbD⟩))
  have hRD : RowQ WD pa qs := (hra.later ((Below.refl _ _).alloc (Nat.le_refl _) _)).later hbD
  have hBD := (hBx2.alloc (.cells #[.int .i64 x', .int .i64 y', .int .i64 z'] 23)).later hbD
  have B4 : Below w.heap.size w WD := by
    have hs1 := HC.size
    have hs2 := hbD.size
    simp at hs1 hs2
    repeat' (first | with_reducible exact Below.refl _ _ | with_reducible refine Below.drew ?_ | with_reducible refine below_drewN ?_ _ | with_reducible refine Below.alloc ?_ (by first | omega | (simp <;> omega)) _ | with_reducible refine Below.setCell ?_ (by first | omega | (dsimp only; omega) | (simp <;> omega)) _ | with_reducible refine Below.trans ?_ (Below.mono (by assumption) (by first | omega | (simp <;> omega))))
  obtain ⟨bP, hbP⟩ : ∃ x, w1.heap.size = x := ⟨_, rfl⟩
  rw [hbP] at hBD ⊢
  clear hra hga hBx2 hbD HC qB qD hb1 hz1 hBx c0 c1 c2 c3 c4 c5 lB hbP
  have HBD := Lib.hid hBD
  have HRD := Lib.hid hRD
  clear hBD hRD
  have hw0 : w.heap.size ≤ WD.heap.size := B4.size
  go_loopw [13, 14] (fun v13 v14 wr => ∃ i j : Nat, v14 = .int .i64 (i : Int) ∧ i ≤ qs.length + 1 ∧ j ≤ qs.length ∧ (i ≤ qs.length → j = i) ∧ v13 = .int .i64 (P j : Int) ∧ Below WD.heap.size WD wr) (fun _ v _ => qs.length + 1 - (intOf v).toNat)
  case atStart => exact ⟨0, 0, rfl, by omega, by omega, fun _ => rfl, by rw [HP0.out]; rfl, Below.refl _ _⟩
  case round =>
    obtain ⟨i, j, rfl, hi, hj, hij, rfl, hb⟩ := hrel
    have hbs := hb.size
    rcases (show i < qs.length ∨ i = qs.length ∨ i = qs.length + 1 by omega) with hlt | hlt | hlt
    · obtain rfl : j = i := hij (by omega)
      obtain ⟨b1, o1, rfl, hb5, hc1⟩ := (HRD.out.later hb).at hlt
      obtain ⟨d1, d2, d3⟩ := hc1 j hlt
      obtain ⟨x, n, v, e1, e2, e3, e4, e5⟩ := HP2.out j hlt
      rw [e1] at d1 d2 d3
      dsimp only at d1 d2 d3
      obtain ⟨p, hp⟩ : ∃ p, P j = p := ⟨_, rfl⟩
      rw [hp] at e3 e4 e5 ⊢
      clear hp
      have HE3 := Lib.hid e3
      have HE5 := Lib.hid e5
      have i0 : (0 : Int) ≤ (j : Int) := by omega
      have i1 : (j : Int) < (qs.length : Int) := by omega
      have i2 : decide ((j : Int) ≤ (qs.length : Int)) = true := by simp; omega
      have i3 : decide ((j : Int) < (qs.length : Int)) = true := by simp; omega
      have t1 : decide ((x : Int) < 0) = false := by simp
      have t2 : decide ((s.size : Int) - (p : Int) < (x : Int)) = false := by simp; omega
      have t3 : decide ((n : Int) < 1) = false := by simp; omega
      have t4 : decide ((s.size : Int) - (p : Int) - (x : Int) < (n : Int)) = false := by simp; omega
      have a1 : IntKind.i64.wrap ((s.size : Int) - (p : Int)) = (s.size : Int) - (p : Int) := IntWalk.i64_in _ (by omega)
      have a2 : IntKind.i64.wrap ((s.size : Int) - (p : Int) - (x : Int)) = (s.size : Int) - (p : Int) - (x : Int) := IntWalk.i64_in _ (by omega)
      have a4 : IntKind.i64.wrap ((p : Int) + (x : Int)) = (p : Int) + (x : Int) := IntWalk.i64_in _ (by omega)
      have HEQ := Lib.hid e1
      have a5 : IntKind.i64.wrap ((p : Int) + (x : Int) + (n : Int)) = (p : Int) + (x : Int) + (n : Int) := IntWalk.i64_in _ (by omega)
      clear e1 e3 e5 hc1 d3
      go_wp2
      apply wp_det
      case det =>
        go_region
        all_goals exact ⟨rfl, rfl⟩
      case go =>
      go_wp2
      obtain ⟨wo, hwo⟩ : ∃ wo : World, wo = wr := ⟨_, rfl⟩
      subst hwo
      go_loopw [16] (fun v16 wr => ∃ q : Nat, v16 = .int .i64 (q : Int) ∧ p ≤ q ∧ q ≤ p + x ∧ Below WD.heap.size WD wr) (fun v _ => p + x - (intOf v).toNat)
      case atStart => exact ⟨p, rfl, by omega, by omega, by first | exact hb | exact hb.drew⟩
      case round =>
        clear hb hbs
        obtain ⟨q, rfl, hq1, hq2, hb⟩ := hrel
        have hbs := hb.size
        by_cases hqt : q < p + x
        · have hR := HE5.out q hq1 hqt
          have qA := fun w => rat_p s (q : Int) (s.size : Int) 10 dp 0 0 0 ((q : Int) - (p : Int)) w (by omega)
          generalize Rat s (q : Int) (s.size : Int) 10 dp 0 0 0 ((q : Int) - (p : Int)) = R at hR qA
          obtain ⟨⟨m1, m2, m3, m4⟩, fb, er⟩ := R
          obtain ⟨rfl, rfl⟩ : fb = false ∧ er = 0 := by simpa using hR
          dsimp only at qA
          have c1 : wr.cell? ⟨bP, 1, none⟩ = some (.int .i64 10) := (hb.cell (p := ⟨bP, 1, none⟩) HBD.out.lt).trans (HBD.out.cell 1)
          have v1 : (q : Int) < (p + x : Int) := by omega
          have a9 : IntKind.i64.wrap ((q : Int) - (p : Int)) = (q : Int) - (p : Int) := IntWalk.i64_in _ (by omega)
          clear hR
          go_wp2_with (go_at_call 19; refine (qA _).mono ?_; rintro en wA ⟨rfl, hbA⟩; have hsA := hbA.size)
          go_roundw
          case rel => exact ⟨q + 1, by go_num, by omega, by omega, hb.trans (show Below WD.heap.size wr _ from by repeat' (first | with_reducible exact Below.refl _ _ | with_reducible refine Below.drew ?_ | with_reducible refine below_drewN ?_ _ | with_reducible refine Below.alloc ?_ (by first | omega | (simp <;> omega)) _ | with_reducible refine Below.setCell ?_ (by first | omega | (dsimp only; omega) | (simp <;> omega)) _ | with_reducible refine Below.trans ?_ (Below.mono (by assumption) (by first | omega | (simp <;> omega)))))⟩
          case measure => go_light; simp [intOf] <;> omega
        · obtain rfl : q = p + x := by omega
          have v1 : ¬ ((p + x : Nat) : Int) < (p + x : Int) := by omega
          obtain ⟨b9, o9, he9, hb9, hc9⟩ := (HRD.out.later hb).at hlt
          cases he9
          obtain ⟨_, f2, _⟩ := hc9 j hlt
          rw [HEQ.out] at f2
          dsimp only at f2
          clear hc9
          go_wp2
          go_roundw
          case rel => exact ⟨j + 1, j + 1, by go_num, by omega, by omega, fun _ => rfl, by rw [HE3.out]; go_num, hb⟩
          case measure => go_light; simp [intOf] <;> omega
    · obtain rfl : j = i := hij (by omega)
      subst hlt
      obtain ⟨p, hp⟩ : ∃ p, P qs.length = p := ⟨_, rfl⟩
      have h3 := HP3.out
      have h1 := HP1.out qs.length (by omega)
      rw [hp] at h1 h3 ⊢
      have HE5 := Lib.hid h3
      have HPP := Lib.hid hp
      have i2 : decide ((qs.length : Int) ≤ (qs.length : Int)) = true := by simp
      clear h3 hp hij
      go_wp2
      obtain ⟨wo, hwo⟩ : ∃ wo : World, wo = wr := ⟨_, rfl⟩
      subst hwo
      go_loopw [16] (fun v16 wr => ∃ q : Nat, v16 = .int .i64 (q : Int) ∧ p ≤ q ∧ q ≤ s.size ∧ Below WD.heap.size WD wr) (fun v _ => s.size - (intOf v).toNat)
      case atStart => exact ⟨p, rfl, by omega, by omega, by first | exact hb | exact hb.drew⟩
      case round =>
        clear hb hbs
        obtain ⟨q, rfl, hq1, hq2, hb⟩ := hrel
        have hbs := hb.size
        by_cases hqt : q < s.size
        · have hR := HE5.out q hq1 hqt
          have qA := fun w => rat_p s (q : Int) (s.size : Int) 10 dp 0 0 0 ((q : Int) - (p : Int)) w (by omega)
          generalize Rat s (q : Int) (s.size : Int) 10 dp 0 0 0 ((q : Int) - (p : Int)) = R at hR qA
          obtain ⟨⟨m1, m2, m3, m4⟩, fb, er⟩ := R
          obtain ⟨rfl, rfl⟩ : fb = false ∧ er = 0 := by simpa using hR
          dsimp only at qA
          have c1 : wr.cell? ⟨bP, 1, none⟩ = some (.int .i64 10) := (hb.cell (p := ⟨bP, 1, none⟩) HBD.out.lt).trans (HBD.out.cell 1)
          have v1 : (q : Int) < ((s.size : Int) : Int) := by omega
          have a9 : IntKind.i64.wrap ((q : Int) - (p : Int)) = (q : Int) - (p : Int) := IntWalk.i64_in _ (by omega)
          clear hR
          go_wp2_with (go_at_call 19; refine (qA _).mono ?_; rintro en wA ⟨rfl, hbA⟩; have hsA := hbA.size)
          go_roundw
          case rel => exact ⟨q + 1, by go_num, by omega, by omega, hb.trans (show Below WD.heap.size wr _ from by repeat' (first | with_reducible exact Below.refl _ _ | with_reducible refine Below.drew ?_ | with_reducible refine below_drewN ?_ _ | with_reducible refine Below.alloc ?_ (by first | omega | (simp <;> omega)) _ | with_reducible refine Below.setCell ?_ (by first | omega | (dsimp only; omega) | (simp <;> omega)) _ | with_reducible refine Below.trans ?_ (Below.mono (by assumption) (by first | omega | (simp <;> omega)))))⟩
          case measure => go_light; simp [intOf] <;> omega
        · obtain rfl : q = s.size := by omega
          have v1 : ¬ ((s.size : Nat) : Int) < ((s.size : Int) : Int) := by omega
          go_wp2
          go_roundw
          case rel => exact ⟨qs.length + 1, qs.length, by go_num, by omega, by omega, fun h => by omega, by rw [HPP.out], hb⟩
          case measure => go_light; simp [intOf] <;> omega
    · have i2 : ¬ (i : Int) ≤ (qs.length : Int) := by omega
      subst hlt
      clear hij
      go_wp2_with ((go_at_call 35; refine (awake_p24 _).mono ?_; rintro en wa ⟨rfl, hba⟩; have hsz := hba.size; (try simp at hsz)))
      go_light
      refine bodyPost_ret (v := .bool true) (by simp [results, Try.results11, go_sem, *]) rfl ⟨rfl, ?_⟩
      repeat' (first | with_reducible exact Below.refl _ _ | with_reducible refine Below.drew ?_ | with_reducible refine below_drewN ?_ _ | with_reducible refine Below.alloc ?_ (by first | omega | (simp <;> omega)) _ | with_reducible refine Below.setCell ?_ (by first | omega | (dsimp only; omega) | (simp <;> omega)) _ | with_reducible refine Below.trans ?_ (Below.mono (by assumption) (by first | omega | (simp <;> omega))))
end Go.Proofs.Ytammacofhdbgcaa
