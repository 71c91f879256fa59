/-
  ParseBack, walked.
-/
import Derived.Test.YtammacofhdbgcaaRows
import Derived.Test.YtammacofhdbgcaaParseParams
import Derived.Test.YtammacofhdbgcaaParseMore
import Derived.Test.YtammacofhdbgcaaBackPlain
import Derived.Test.YtammacofhdbgcaaSeqExec
import Derived.Test.YtammacofhdbgcaaGKit
import Derived.Test.YtammacofhdbgcaaParseLaw1
import Derived.Test.YtammacofhdbgcaaGBase
import Derived.Deep.Light
import Derived.Shelf.Abstract
import Derived.Shelf.RegionOpen
import Derived.OwnWalkIn
import Derived.TacticsInMore
import Derived.LoopNIn
import Derived.LoopIn
import Derived.Outline
import Derived.IntWalk
import Derived.WalkMore
namespace Go.Proofs.Ytammacofhdbgcaa
open Go.RowKit
set_option linter.unusedSimpArgs false
set_option linter.unusedVariables false
open Go.Shelf
attribute [local go_sem] eq23 Oper.semAt_some

set_option maxRecDepth 100000 in
set_option maxHeartbeats 8000000 in
theorem parseBack_t (ad : Option Addr) (xs : List Int) (cap : Nat) (x y n v : Int) (w : World) (ha : Row .i64 w ad xs) (hl : xs.length ≤ 9223372036854775807) :
    Calls Try.prog 10 #[.slice ad xs.length cap, .int .i64 x, .int .i64 y, .int .i64 n, .int .i64 v] w fun e' w' => e' = .returned (.bool true) ∧ Below w.heap.size w w' := by
  obtain ⟨L, W, J, O, sy, ch, hpk, hW, qP⟩ := params_p n
  obtain ⟨k, hk⟩ : ∃ k : Nat, v % 4 = (k : Int) := ⟨(v % 4).toNat, by omega⟩
  have hk4 : k < 4 := by omega
  have qM3 := fun w => modS v 4 (by omega) (by omega) w
  rw [hk] at qM3
  clear hk
  obtain ⟨a, b, c, hc, r0, r1, r2⟩ : ∃ a b c : Int, chkL true [a, b, c] = 0 ∧ [Value.int .i64 0, .int .i64 0, .int .i64 0, .int .i64 1, .int .i64 4, .int .i64 8, .int .i64 3, .int .i64 0, .int .i64 0, .int .i64 2, .int .i64 5, .int .i64 0][k * 3]? = some (.int .i64 a) ∧ [Value.int .i64 0, .int .i64 0, .int .i64 0, .int .i64 1, .int .i64 4, .int .i64 8, .int .i64 3, .int .i64 0, .int .i64 0, .int .i64 2, .int .i64 5, .int .i64 0][k * 3 + 1]? = some (.int .i64 b) ∧ [Value.int .i64 0, .int .i64 0, .int .i64 0, .int .i64 1, .int .i64 4, .int .i64 8, .int .i64 3, .int .i64 0, .int .i64 0, .int .i64 2, .int .i64 5, .int .i64 0][k * 3 + 2]? = some (.int .i64 c) := by
    match k, hk4 with
    | 0, _ => exact ⟨0, 0, 0, by decide, rfl, rfl, rfl⟩
    | 1, _ => exact ⟨1, 4, 8, by decide, rfl, rfl, rfl⟩
    | 2, _ => exact ⟨3, 0, 0, by decide, rfl, rfl, rfl⟩
    | 3, _ => exact ⟨2, 5, 0, by decide, rfl, rfl, rfl⟩
  go_enter Try.func10, Try.ntmps10
  go_wp2_with (first | (go_at_call 41; refine (input_k ad xs cap 200 _ ha hl (by omega)).mono ?_; rintro en w1 ⟨s, rfl, hs0, hb1⟩; have hs : s.size ≤ 200 := hs0; have qM1 := fun w => modS x ((s.size : Int) + 1) (by omega) (by omega) w; (obtain ⟨p, hp⟩ : ∃ p : Nat, x % ((s.size : Int) + 1) = (p : Int) := ⟨(x % ((s.size : Int) + 1)).toNat, by have := Int.emod_nonneg x (b := (s.size : Int) + 1) (by omega); omega⟩); (have hp2 : p ≤ s.size := by have := Int.emod_lt_of_pos x (b := (s.size : Int) + 1) (by omega); omega); rw [hp] at qM1; have qM2 := fun w => modS y ((s.size : Int) - (p : Int) + 1) (by omega) (by omega) w; (obtain ⟨r, hr⟩ : ∃ r : Nat, y % ((s.size : Int) - (p : Int) + 1) = (r : Int) := ⟨(y % ((s.size : Int) - (p : Int) + 1)).toNat, by have := Int.emod_nonneg y (b := (s.size : Int) - (p : Int) + 1) (by omega); omega⟩); (have hr2 : r ≤ s.size - p := by have := Int.emod_lt_of_pos y (b := (s.size : Int) - (p : Int) + 1) (by omega); omega); rw [hr] at qM2; clear hp hr hs0) | (go_at_call 22; (with_reducible refine (qM1 _).mono ?_); rintro en wm ⟨rfl, hwm⟩; (obtain rfl : w1 = wm := hwm.symm)) | (go_at_call 22; (with_reducible refine (qM2 _).mono ?_); rintro en wm ⟨rfl, hwm⟩; (obtain rfl : w1 = wm := hwm.symm)) | (go_at_call 42; refine (qP _).mono ?_; rintro en WP ⟨rfl, HB⟩; have hsz := HB.size; (try simp at hsz); (first | (have hbl := blater2 HA (by first | exact Nat.le_refl _ | (simp; done) | (simp; omega)) HB; obtain ⟨hcc, hff, HA, hne, hne'⟩ := hbl) | (obtain ⟨hcc, hff, HA, hne, hne'⟩ := blater1 HB)); (try simp only [World.size_alloc, World.size_setCell] at HA)) | (go_at_call 22; (with_reducible refine (qM3 _).mono ?_); rintro en wn ⟨rfl, hwn⟩))
  obtain ⟨lz, hlz, hz⟩ := lazy_nat L
  have hP1 : Pblk s (p : Int) ((p : Int) + (r : Int)) L W J O a b c = (pblock s p (p + r) W (depthT L) lz a b c, 0) := by
    unfold Pblk
    rw [if_neg (by rw [pask_zero hpk (by omega) (by omega) (by omega) (by omega) (by omega) hc]; simp), show (lazyT L).toNat = lz by omega, Int.toNat_natCast, show ((p : Int) + (r : Int)).toNat = p + r by omega]
  have hln := pblk_len s (p : Int) ((p : Int) + (r : Int)) L W J O a b c
  have qB := fun w => block_p s (p : Int) ((p : Int) + (r : Int)) L W J O a b c sy ch w (by omega)
  rw [hP1] at qB hln
  have hEx := fun qs t r' h => back_exec s p (p + r) W (depthT L) lz a b c (by omega) (by omega) (by omega) hc qs t r' h ((2 : Int) ^ W.toNat) (Int.le_refl _)
  have hAl := fun qs t r' h => back_all s p (p + r) W (depthT L) lz a b c (by omega) (by omega) (by omega) hc qs t r' h ((2 : Int) ^ W.toNat) (Int.le_refl _)
  clear hP1 hlz hz qM1 qM2 qM3 qP hpk hc
  generalize pblock s p (p + r) W (depthT L) lz a b c = R at qB hln hEx hAl
  obtain ⟨qs, t, x', y', z'⟩ := R
  have hts := (hAl qs t _ rfl).2.1
  have hq4 := (hAl qs t _ rfl).2.2.1
  have hq5 := (hAl qs t _ rfl).2.2.2.1
  have hex := hEx qs t _ rfl
  clear hEx hAl
  unfold BlkPost at qB
  dsimp only at qB hln
  have hz1 := hb1.size
  have hzP := HB.size
  obtain ⟨W0, hW0⟩ : ∃ W0, ((WP.alloc (.cells #[.int .i64 L, .int .i64 W, .int .i64 J, .int .i64 O, .bool sy, .bool ch] 57)).alloc (.cells #[Value.int .i64 0, .int .i64 0, .int .i64 0, .int .i64 1, .int .i64 4, .int .i64 8, .int .i64 3, .int .i64 0, .int .i64 0, .int .i64 2, .int .i64 5, .int .i64 0] 23)).alloc (.cells #[.int .i64 a, .int .i64 b, .int .i64 c] 23) = W0 := ⟨_, rfl⟩
  have kP : Blk W0 WP.heap.size 57 [.int .i64 L, .int .i64 W, .int .i64 J, .int .i64 O, .bool sy, .bool ch] := by rw [← hW0]; exact ((Blk.new WP 57 #[.int .i64 L, .int .i64 W, .int .i64 J, .int .i64 O, .bool sy, .bool ch]).alloc _).alloc _
  have kR : Blk W0 (WP.heap.size + 1 + 1) 23 [.int .i64 a, .int .i64 b, .int .i64 c] := by rw [← hW0]; simpa using Blk.new ((WP.alloc (.cells #[.int .i64 L, .int .i64 W, .int .i64 J, .int .i64 O, .bool sy, .bool ch] 57)).alloc (.cells #[Value.int .i64 0, .int .i64 0, .int .i64 0, .int .i64 1, .int .i64 4, .int .i64 8, .int .i64 3, .int .i64 0, .int .i64 0, .int .i64 2, .int .i64 5, .int .i64 0] 23)) 23 #[.int .i64 a, .int .i64 b, .int .i64 c]
  have hb0 : Below w.heap.size w W0 := by rw [← hW0]; repeat' (first | with_reducible exact Below.refl _ _ | with_reducible refine Below.drew ?_ | with_reducible refine below_drewN ?_ _ | with_reducible refine Below.alloc ?_ (by first | omega | (simp <;> omega)) _ | with_reducible refine Below.setCell ?_ (by first | omega | (dsimp only; omega) | (simp <;> omega)) _ | with_reducible refine Below.trans ?_ (Below.mono (by assumption) (by first | omega | (simp <;> omega))))
  rw [hW0]
  obtain ⟨bP, hbP⟩ : ∃ x, WP.heap.size = x := ⟨_, rfl⟩
  obtain ⟨bR, hbR⟩ : ∃ x, bP + 1 + 1 = x := ⟨_, rfl⟩
  rw [hbP] at kP kR ⊢
  rw [hbR] at kR ⊢
  clear hW0 hbP hbR hb1 HB hcc hff HA hne hne' hzP hz1
  go_wp2_with (go_at_call 36; refine (qB _).mono ?_; rintro en WB ⟨pa, ca, rfl, hga, hra, HC⟩; have kP2 := kP.later HC; have kR2 := kR.later HC; have p0 := kP2.cell 0; have p1 := kP2.cell 1; have p2 := kP2.cell 2; have p3 := kP2.cell 3; have p4 := kP2.cell 4; have p5 := kP2.cell 5; have q0 := kR2.cell 0; have q1 := kR2.cell 1; have q2 := kR2.cell 2; have lP := kP2.lt; have lR := kR2.lt)
  have kP3 := kP2.alloc (.cells #[.int .i64 x', .int .i64 y', .int .i64 z'] 23)
  have kR3 := kR2.alloc (.cells #[.int .i64 x', .int .i64 y', .int .i64 z'] 23)
  have kX3 : Blk (WB.alloc (.cells #[.int .i64 x', .int .i64 y', .int .i64 z'] 23)) WB.heap.size 23 [.int .i64 x', .int .i64 y', .int .i64 z'] := Blk.new _ _ _
  have hra3 := hra.later ((Below.refl _ WB).alloc (Nat.le_refl _) (.cells #[.int .i64 x', .int .i64 y', .int .i64 z'] 23))
  have hb3 : Below w.heap.size w (WB.alloc (.cells #[.int .i64 x', .int .i64 y', .int .i64 z'] 23)) := by
    have := HC.size
    have := hb0.size
    repeat' (first | with_reducible exact Below.refl _ _ | with_reducible refine Below.drew ?_ | with_reducible refine below_drewN ?_ _ | with_reducible refine Below.alloc ?_ (by first | omega | (simp <;> omega)) _ | with_reducible refine Below.setCell ?_ (by first | omega | (dsimp only; omega) | (simp <;> omega)) _ | with_reducible refine Below.trans ?_ (Below.mono (by assumption) (by first | omega | (simp <;> omega))))
  obtain ⟨W2, hW2⟩ : ∃ W2, WB.alloc (.cells #[.int .i64 x', .int .i64 y', .int .i64 z'] 23) = W2 := ⟨_, rfl⟩
  rw [hW2] at kP3 kR3 kX3 hra3 hb3 ⊢
  obtain ⟨bX, hbX⟩ : ∃ x, WB.heap.size = x := ⟨_, rfl⟩
  rw [hbX] at kX3 ⊢
  clear kP kR kP2 kR2 hra hga HC hb0 hW2 hbX qB lP lR p0 p1 p2 p3 p4 p5 q0 q1 q2
  have p0 := kP3.cell 0; have p1 := kP3.cell 1; have p2 := kP3.cell 2; have p3 := kP3.cell 3; have p4 := kP3.cell 4; have p5 := kP3.cell 5
  have q0 := kR3.cell 0; have q1 := kR3.cell 1; have q2 := kR3.cell 2
  have lP := kP3.lt
  have lR := kR3.lt
  have lX := kX3.lt
  have hs2 := hb3.size
  have HQ4 := Lib.hid hq4
  have hpz : (s.extract 0 p).size = p := by rw [ByteArray.size_extract]; omega
  have qE := fun w h => rexec_p pa qs ca t (s.extract 0 p) a b c ((2 : Int) ^ W.toNat) w h (by omega) (by omega) (by omega)
  rw [hex] at qE
  dsimp only at qE
  have b1 : 0 ≤ (p : Int) := by omega
  have b2 : (p : Int) ≤ (s.size : Int) := by omega
  clear hex hq4
  rcases hW with rfl | rfl
  · rw [show (2 : Int) ^ ((10 : Int)).toNat = 1024 by decide] at qE
    go_cut [20, 21, 22] (fun s1 s2 s3 wx => ∃ (B : Nat), s1 = .string (s.extract p (p + r)) ∧ s2 = .pointer (some ⟨B, 0, none⟩) ∧ s3 = .int .i64 0 ∧ wx.cell? ⟨B, 0, none⟩ = some (.int .i64 x') ∧ wx.cell? ⟨B, 1, none⟩ = some (.int .i64 y') ∧ wx.cell? ⟨B, 2, none⟩ = some (.int .i64 z') ∧ B < wx.heap.size ∧ Below W2.heap.size W2 wx)
    case first =>
      go_region_held3 (fun w' => w'.cell? ⟨bR, 0, none⟩ = some (.int .i64 a) ∧ w'.cell? ⟨bR, 1, none⟩ = some (.int .i64 b) ∧ w'.cell? ⟨bR, 2, none⟩ = some (.int .i64 c) ∧ w'.cell? ⟨bP, 1, none⟩ = some (.int .i64 10)) (first | (simp [go_sem, *]; done) | go_keep) ((go_at_call 43; refine (qE _ (hra3.later (by repeat' (first | with_reducible exact Below.refl _ _ | with_reducible refine Below.drew ?_ | with_reducible refine below_drewN ?_ _ | with_reducible refine Below.alloc ?_ (by first | omega | (simp <;> omega)) _ | with_reducible refine Below.setCell ?_ (by first | omega | (dsimp only; omega) | (simp <;> omega)) _ | with_reducible refine Below.trans ?_ (Below.mono (by assumption) (by first | omega | (simp <;> omega))))))).mono ?_; rintro en WE ⟨rfl, HE⟩; have hsz := HE.size; (try simp at hsz); (first | (have hbl := blater2 HA (by first | exact Nat.le_refl _ | (simp; done) | (simp; omega)) HE; obtain ⟨hcc, hff, HA, hne, hne'⟩ := hbl) | (obtain ⟨hcc, hff, HA, hne, hne'⟩ := blater1 HE)); (try simp only [World.size_alloc, World.size_setCell] at HA); have z0 : WE.cell? ⟨bR, 0, none⟩ = some (.int .i64 a) := (HE.cell (p := ⟨bR, 0, none⟩) (by first | assumption | (simp; done) | (simp; omega))).trans (by first | assumption | simp [go_sem, *]); have z1 : WE.cell? ⟨bR, 1, none⟩ = some (.int .i64 b) := (HE.cell (p := ⟨bR, 1, none⟩) (by first | assumption | (simp; done) | (simp; omega))).trans (by first | assumption | simp [go_sem, *]); have z2 : WE.cell? ⟨bR, 2, none⟩ = some (.int .i64 c) := (HE.cell (p := ⟨bR, 2, none⟩) (by first | assumption | (simp; done) | (simp; omega))).trans (by first | assumption | simp [go_sem, *]); have z3 : WE.cell? ⟨bP, 1, none⟩ = some (.int .i64 10) := (HE.cell (p := ⟨bP, 1, none⟩) (by first | assumption | (simp; done) | (simp; omega))).trans (by first | assumption | simp [go_sem, *])))
      all_goals (go_wp2_with fail; go_meet; go_light)
      all_goals
        refine ⟨_, rfl, rfl, rfl, by simp [go_sem, *], by simp [go_sem, *], by simp [go_sem, *], by first | (simp; done) | (simp; omega), ?_⟩
        repeat' (first | with_reducible exact Below.refl _ _ | with_reducible refine Below.drew ?_ | with_reducible refine below_drewN ?_ _ | with_reducible refine Below.alloc ?_ (by first | omega | (simp <;> omega)) _ | with_reducible refine Below.setCell ?_ (by first | omega | (dsimp only; omega) | (simp <;> omega)) _ | with_reducible refine Below.trans ?_ (Below.mono (by assumption) (by first | omega | (simp <;> omega))))
    case rest =>
      obtain ⟨B, rfl, rfl, rfl, y0, y1, y2, hlB, hb4⟩ := hcut
      have hs4 := hb4.size
      have kX4 := kX3.later hb4
      have x0 := kX4.cell 0
      have x1 := kX4.cell 1
      have x2 := kX4.cell 2
      have hra4 := hra3.later hb4
      have hb5 : Below w.heap.size w wc := hb3.trans (hb4.mono hs2)
      have b3 : ((p : Int) + (r : Int)).toNat = p + r := by omega
      have b4 : 0 ≤ (p : Int) + (r : Int) := by omega
      have b5 : (p : Int) + (r : Int) ≤ (s.size : Int) := by omega
      have b6 : (p : Int) ≤ (p : Int) + (r : Int) := by omega
      have hq5' : 4 * qs.length ≤ r := by omega
      clear qE p0 p1 p2 p3 p4 p5 q0 q1 q2 kP3 kR3 kX3 hra3 hb3 hb4
      go_wp2
      clear y0 y1 y2 x0 x1 x2
      go_loopw [23] (fun v wr => ∃ k : Nat, v = .int .i64 (k : Int) ∧ k ≤ qs.length ∧ Below wc.heap.size wc wr) (fun v _ => qs.length - (intOf v).toNat)
      case atStart => exact ⟨0, rfl, by omega, Below.refl _ _⟩
      case round =>
        obtain ⟨k, rfl, hk, hb⟩ := hrel
        have hbs := hb.size
        by_cases hlt : k < qs.length
        · obtain ⟨b1, o1, rfl, hb6, hc1⟩ := (hra4.later hb).at hlt
          obtain ⟨_, c2, _⟩ := hc1 k hlt
          obtain ⟨lx, m, vv, g1, g2, g3, g4, g5, g6⟩ := HQ4.out k hlt
          rw [g1] at c2
          dsimp only at c2
          have i0 : (0 : Int) ≤ (k : Int) := by omega
          have i1 : (k : Int) < (qs.length : Int) := by omega
          have i2 : decide ((m : Int) < 4) = false := by simp; omega
          clear hc1 g1
          go_wp2
          go_roundw
          case rel => exact ⟨k + 1, by go_num, by omega, hb⟩
          case measure => go_light; simp [intOf] <;> omega
        · obtain rfl : k = qs.length := by omega
          have jj : ¬ (qs.length : Int) < (qs.length : Int) := by omega
          have a1 : IntKind.i64.wrap ((p : Int) + (r : Int) - (p : Int)) = (r : Int) := by rw [IntWalk.i64_in _ (by omega)]; omega
          have hs5 := hb5.size
          by_cases hr4 : 4 ≤ r
          · have i3 : decide ((4 : Int) ≤ (r : Int)) = true := by simp; omega
            go_wp2_with ((go_at_call 35; refine (awake_p24 _).mono ?_; rintro en wa ⟨rfl, hba⟩; have hsz := hba.size; (try simp at hsz)))
            go_light
            refine bodyPost_ret (v := .bool true) (by simp [results, Try.results10, go_sem, *]) rfl ⟨rfl, ?_⟩
            repeat' (first | with_reducible exact Below.refl _ _ | with_reducible refine Below.drew ?_ | with_reducible refine below_drewN ?_ _ | with_reducible refine Below.alloc ?_ (by first | omega | (simp <;> omega)) _ | with_reducible refine Below.setCell ?_ (by first | omega | (dsimp only; omega) | (simp <;> omega)) _ | with_reducible refine Below.trans ?_ (Below.mono (by assumption) (by first | omega | (simp <;> omega))))
          · have i3 : decide ((4 : Int) ≤ (r : Int)) = false := by simp; omega
            have i4 : qs.length = 0 := by omega
            go_wp2_with ((go_at_call 35; refine (awake_p24 _).mono ?_; rintro en wa ⟨rfl, hba⟩; have hsz := hba.size; (try simp at hsz)))
            go_light
            refine bodyPost_ret (v := .bool true) (by simp [results, Try.results10, go_sem, *]) rfl ⟨rfl, ?_⟩
            repeat' (first | with_reducible exact Below.refl _ _ | with_reducible refine Below.drew ?_ | with_reducible refine below_drewN ?_ _ | with_reducible refine Below.alloc ?_ (by first | omega | (simp <;> omega)) _ | with_reducible refine Below.setCell ?_ (by first | omega | (dsimp only; omega) | (simp <;> omega)) _ | with_reducible refine Below.trans ?_ (Below.mono (by assumption) (by first | omega | (simp <;> omega))))
  · rw [show (2 : Int) ^ ((17 : Int)).toNat = 131072 by decide] at qE
    go_cut [20, 21, 22] (fun s1 s2 s3 wx => ∃ (B : Nat), s1 = .string (s.extract p (p + r)) ∧ s2 = .pointer (some ⟨B, 0, none⟩) ∧ s3 = .int .i64 0 ∧ wx.cell? ⟨B, 0, none⟩ = some (.int .i64 x') ∧ wx.cell? ⟨B, 1, none⟩ = some (.int .i64 y') ∧ wx.cell? ⟨B, 2, none⟩ = some (.int .i64 z') ∧ B < wx.heap.size ∧ Below W2.heap.size W2 wx)
    case first =>
      go_region_held3 (fun w' => w'.cell? ⟨bR, 0, none⟩ = some (.int .i64 a) ∧ w'.cell? ⟨bR, 1, none⟩ = some (.int .i64 b) ∧ w'.cell? ⟨bR, 2, none⟩ = some (.int .i64 c) ∧ w'.cell? ⟨bP, 1, none⟩ = some (.int .i64 17)) (first | (simp [go_sem, *]; done) | go_keep) ((go_at_call 43; refine (qE _ (hra3.later (by repeat' (first | with_reducible exact Below.refl _ _ | with_reducible refine Below.drew ?_ | with_reducible refine below_drewN ?_ _ | with_reducible refine Below.alloc ?_ (by first | omega | (simp <;> omega)) _ | with_reducible refine Below.setCell ?_ (by first | omega | (dsimp only; omega) | (simp <;> omega)) _ | with_reducible refine Below.trans ?_ (Below.mono (by assumption) (by first | omega | (simp <;> omega))))))).mono ?_; rintro en WE ⟨rfl, HE⟩; have hsz := HE.size; (try simp at hsz); (first | (have hbl := blater2 HA (by first | exact Nat.le_refl _ | (simp; done) | (simp; omega)) HE; obtain ⟨hcc, hff, HA, hne, hne'⟩ := hbl) | (obtain ⟨hcc, hff, HA, hne, hne'⟩ := blater1 HE)); (try simp only [World.size_alloc, World.size_setCell] at HA); have z0 : WE.cell? ⟨bR, 0, none⟩ = some (.int .i64 a) := (HE.cell (p := ⟨bR, 0, none⟩) (by first | assumption | (simp; done) | (simp; omega))).trans (by first | assumption | simp [go_sem, *]); have z1 : WE.cell? ⟨bR, 1, none⟩ = some (.int .i64 b) := (HE.cell (p := ⟨bR, 1, none⟩) (by first | assumption | (simp; done) | (simp; omega))).trans (by first | assumption | simp [go_sem, *]); have z2 : WE.cell? ⟨bR, 2, none⟩ = some (.int .i64 c) := (HE.cell (p := ⟨bR, 2, none⟩) (by first | assumption | (simp; done) | (simp; omega))).trans (by first | assumption | simp [go_sem, *]); have z3 : WE.cell? ⟨bP, 1, none⟩ = some (.int .i64 17) := (HE.cell (p := ⟨bP, 1, none⟩) (by first | assumption | (simp; done) | (simp; omega))).trans (by first | assumption | simp [go_sem, *])))
      all_goals (go_wp2_with fail; go_meet; go_light)
      all_goals
        refine ⟨_, rfl, rfl, rfl, by simp [go_sem, *], by simp [go_sem, *], by simp [go_sem, *], by first | (simp; done) | (simp; omega), ?_⟩
        repeat' (first | with_reducible exact Below.refl _ _ | with_reducible refine Below.drew ?_ | with_reducible refine below_drewN ?_ _ | with_reducible refine Below.alloc ?_ (by first | omega | (simp <;> omega)) _ | with_reducible refine Below.setCell ?_ (by first | omega | (dsimp only; omega) | (simp <;> omega)) _ | with_reducible refine Below.trans ?_ (Below.mono (by assumption) (by first | omega | (simp <;> omega))))
    case rest =>
      obtain ⟨B, rfl, rfl, rfl, y0, y1, y2, hlB, hb4⟩ := hcut
      have hs4 := hb4.size
      have kX4 := kX3.later hb4
      have x0 := kX4.cell 0
      have x1 := kX4.cell 1
      have x2 := kX4.cell 2
      have hra4 := hra3.later hb4
      have hb5 : Below w.heap.size w wc := hb3.trans (hb4.mono hs2)
      have b3 : ((p : Int) + (r : Int)).toNat = p + r := by omega
      have b4 : 0 ≤ (p : Int) + (r : Int) := by omega
      have b5 : (p : Int) + (r : Int) ≤ (s.size : Int) := by omega
      have b6 : (p : Int) ≤ (p : Int) + (r : Int) := by omega
      have hq5' : 4 * qs.length ≤ r := by omega
      clear qE p0 p1 p2 p3 p4 p5 q0 q1 q2 kP3 kR3 kX3 hra3 hb3 hb4
      go_wp2
      clear y0 y1 y2 x0 x1 x2
      go_loopw [23] (fun v wr => ∃ k : Nat, v = .int .i64 (k : Int) ∧ k ≤ qs.length ∧ Below wc.heap.size wc wr) (fun v _ => qs.length - (intOf v).toNat)
      case atStart => exact ⟨0, rfl, by omega, Below.refl _ _⟩
      case round =>
        obtain ⟨k, rfl, hk, hb⟩ := hrel
        have hbs := hb.size
        by_cases hlt : k < qs.length
        · obtain ⟨b1, o1, rfl, hb6, hc1⟩ := (hra4.later hb).at hlt
          obtain ⟨_, c2, _⟩ := hc1 k hlt
          obtain ⟨lx, m, vv, g1, g2, g3, g4, g5, g6⟩ := HQ4.out k hlt
          rw [g1] at c2
          dsimp only at c2
          have i0 : (0 : Int) ≤ (k : Int) := by omega
          have i1 : (k : Int) < (qs.length : Int) := by omega
          have i2 : decide ((m : Int) < 4) = false := by simp; omega
          clear hc1 g1
          go_wp2
          go_roundw
          case rel => exact ⟨k + 1, by go_num, by omega, hb⟩
          case measure => go_light; simp [intOf] <;> omega
        · obtain rfl : k = qs.length := by omega
          have jj : ¬ (qs.length : Int) < (qs.length : Int) := by omega
          have a1 : IntKind.i64.wrap ((p : Int) + (r : Int) - (p : Int)) = (r : Int) := by rw [IntWalk.i64_in _ (by omega)]; omega
          have hs5 := hb5.size
          by_cases hr4 : 4 ≤ r
          · have i3 : decide ((4 : Int) ≤ (r : Int)) = true := by simp; omega
            go_wp2_with ((go_at_call 35; refine (awake_p24 _).mono ?_; rintro en wa ⟨rfl, hba⟩; have hsz := hba.size; (try simp at hsz)))
            go_light
            refine bodyPost_ret (v := .bool true) (by simp [results, Try.results10, go_sem, *]) rfl ⟨rfl, ?_⟩
            repeat' (first | with_reducible exact Below.refl _ _ | with_reducible refine Below.drew ?_ | with_reducible refine below_drewN ?_ _ | with_reducible refine Below.alloc ?_ (by first | omega | (simp <;> omega)) _ | with_reducible refine Below.setCell ?_ (by first | omega | (dsimp only; omega) | (simp <;> omega)) _ | with_reducible refine Below.trans ?_ (Below.mono (by assumption) (by first | omega | (simp <;> omega))))
          · have i3 : decide ((4 : Int) ≤ (r : Int)) = false := by simp; omega
            have i4 : qs.length = 0 := by omega
            go_wp2_with ((go_at_call 35; refine (awake_p24 _).mono ?_; rintro en wa ⟨rfl, hba⟩; have hsz := hba.size; (try simp at hsz)))
            go_light
            refine bodyPost_ret (v := .bool true) (by simp [results, Try.results10, go_sem, *]) rfl ⟨rfl, ?_⟩
            repeat' (first | with_reducible exact Below.refl _ _ | with_reducible refine Below.drew ?_ | with_reducible refine below_drewN ?_ _ | with_reducible refine Below.alloc ?_ (by first | omega | (simp <;> omega)) _ | with_reducible refine Below.setCell ?_ (by first | omega | (dsimp only; omega) | (simp <;> omega)) _ | with_reducible refine Below.trans ?_ (Below.mono (by assumption) (by first | omega | (simp <;> omega))))
end Go.Proofs.Ytammacofhdbgcaa
