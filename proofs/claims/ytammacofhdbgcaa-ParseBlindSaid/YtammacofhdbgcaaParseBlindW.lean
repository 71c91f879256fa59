/-
  ParseBlind, walked.
-/
import Derived.Test.YtammacofhdbgcaaRows
import Derived.Test.YtammacofhdbgcaaParseParams
import Derived.Test.YtammacofhdbgcaaParseMore
import Derived.Test.YtammacofhdbgcaaGKit
import Derived.Test.YtammacofhdbgcaaParseLaw1
import Derived.Test.YtammacofhdbgcaaGBase
import Derived.Deep.Light
import Derived.Shelf.Abstract
import Derived.Shelf.RegionOpen
import Derived.OwnWalkIn
import Derived.TacticsInMore
import Derived.LoopNIn
import Derived.LoopIn
import Derived.Outline
import Derived.IntWalk
import Derived.WalkMore
namespace Go.Proofs.Ytammacofhdbgcaa
open Go.RowKit
set_option linter.unusedSimpArgs false
set_option linter.unusedVariables false
open Go.Shelf
attribute [local go_sem] eq23 Oper.semAt_some

set_option maxRecDepth 100000 in
set_option maxHeartbeats 8000000 in
theorem parseBlind_t (a : Option Addr) (xs : List Int) (cap : Nat) (x y : Int) (m : ByteArray) (n : Int) (w : World) (ha : Row .i64 w a xs) (hl : xs.length ≤ 9223372036854775807) (hm : m.size ≤ 9223372036854775807) :
    Calls Try.prog 12 #[.slice a xs.length cap, .int .i64 x, .int .i64 y, .string m, .int .i64 n] w fun e' w' => e' = .returned (.bool true) ∧ Below w.heap.size w w' := by
  by_cases h : 50 < m.size
  · have e0 : decide ((50 : Int) < (m.size : Int)) = true := by simp; omega
    have e1 : (50 : Int) < (m.size : Int) := by omega
    go_enter Try.func12, Try.ntmps12
    go_wp2_with ((go_at_call 35; refine (awake_p24 _).mono ?_; rintro en wa ⟨rfl, hba⟩; have hsz := hba.size; (try simp at hsz)))
    repeat' (first | (go_region <;> go_wp2_with ((go_at_call 35; refine (awake_p24 _).mono ?_; rintro en wa ⟨rfl, hba⟩; have hsz := hba.size; (try simp at hsz)))))
    all_goals go_light
    all_goals (try simp only [beq_iff_eq, beq_eq_false_iff_ne, bne_iff_ne, bne_eq_false_iff_eq, ne_eq] at *)
    all_goals
      refine bodyPost_ret (v := .bool true) (by simp [results, Try.results12, go_sem, *]) rfl ⟨rfl, ?_⟩
      repeat' (first | with_reducible exact Below.refl _ _ | with_reducible refine Below.drew ?_ | with_reducible refine below_drewN ?_ _ | with_reducible refine Below.alloc ?_ (by first | omega | (simp <;> omega)) _ | with_reducible refine Below.setCell ?_ (by first | omega | (dsimp only; omega) | (simp <;> omega)) _ | with_reducible refine Below.trans ?_ (Below.mono (by assumption) (by first | omega | (simp <;> omega))))
  · have e0 : decide ((50 : Int) < (m.size : Int)) = false := by simp; omega
    have e1 : ¬ (50 : Int) < (m.size : Int) := by omega
    obtain ⟨L, W, J, O, sy, ch, hpk, hW, qP⟩ := params_p n
    go_enter Try.func12, Try.ntmps12
    go_wp2_with (first | (go_at_call 41; refine (input_k a xs cap 150 _ ha hl (by omega)).mono ?_; rintro en w1 ⟨s, rfl, hs0, hb1⟩; have hs : s.size ≤ 150 := hs0; have qM1 := fun w => modS x ((s.size : Int) + 1) (by omega) (by omega) w; (obtain ⟨p, hp⟩ : ∃ p : Nat, x % ((s.size : Int) + 1) = (p : Int) := ⟨(x % ((s.size : Int) + 1)).toNat, by have := Int.emod_nonneg x (b := (s.size : Int) + 1) (by omega); omega⟩); (have hp2 : p ≤ s.size := by have := Int.emod_lt_of_pos x (b := (s.size : Int) + 1) (by omega); omega); rw [hp] at qM1; have qM2 := fun w => modS y ((s.size : Int) - (p : Int) + 1) (by omega) (by omega) w; (obtain ⟨r, hr⟩ : ∃ r : Nat, y % ((s.size : Int) - (p : Int) + 1) = (r : Int) := ⟨(y % ((s.size : Int) - (p : Int) + 1)).toNat, by have := Int.emod_nonneg y (b := (s.size : Int) - (p : Int) + 1) (by omega); omega⟩); (have hr2 : r ≤ s.size - p := by have := Int.emod_lt_of_pos y (b := (s.size : Int) - (p : Int) + 1) (by omega); omega); rw [hr] at qM2; clear hp hr hs0) | (go_at_call 22; (with_reducible refine (qM1 _).mono ?_); rintro en wm ⟨rfl, hwm⟩; (obtain rfl : w1 = wm := hwm.symm)) | (go_at_call 22; (with_reducible refine (qM2 _).mono ?_); rintro en wm ⟨rfl, hwm⟩; (obtain rfl : w1 = wm := hwm.symm)))
    have hSz : (s.extract 0 (p + r)).size = p + r := by rw [ByteArray.size_extract]; omega
    obtain ⟨lz, hlz, hz⟩ := lazy_nat L
    have hc0 : chkL true [0, 0, 0] = 0 := by decide
    have hT : (s.extract 0 (p + r) ++ m).size = p + r + m.size := by rw [ByteArray.size_append, hSz]
    have hP1 : Pblk (s.extract 0 (p + r)) (p : Int) ((p : Int) + (r : Int)) L W J O 0 0 0 = (pblock (s.extract 0 (p + r)) p (p + r) W (depthT L) lz 0 0 0, 0) := by
      unfold Pblk
      rw [if_neg (by rw [pask_zero hpk (by omega) (by omega) (by omega) (by omega) (by omega) hc0]; simp), show (lazyT L).toNat = lz by omega, Int.toNat_natCast, show ((p : Int) + (r : Int)).toNat = p + r by omega]
    have hP2 : Pblk (s.extract 0 (p + r) ++ m) (p : Int) ((p : Int) + (r : Int)) L W J O 0 0 0 = (pblock (s.extract 0 (p + r)) p (p + r) W (depthT L) lz 0 0 0, 0) := by
      unfold Pblk
      rw [if_neg (by rw [pask_zero hpk (by omega) (by omega) (by omega) (by omega) (by omega) hc0]; simp), show (lazyT L).toNat = lz by omega, Int.toNat_natCast, show ((p : Int) + (r : Int)).toNat = p + r by omega]
      rw [pblock_blind (s.extract 0 (p + r)) (s.extract 0 (p + r) ++ m) (p + r) (by omega) (by omega) (by omega) (by omega) (fun i hi => byt_app_l' _ _ _ (by omega)) p (by omega) _ _ _ _ _ _ hc0]
    have qB1 := fun w => block_p (s.extract 0 (p + r)) (p : Int) ((p : Int) + (r : Int)) L W J O 0 0 0 sy ch w (by omega)
    have qB2 := fun w => block_p (s.extract 0 (p + r) ++ m) (p : Int) ((p : Int) + (r : Int)) L W J O 0 0 0 sy ch w (by omega)
    have hln := pblk_len (s.extract 0 (p + r)) (p : Int) ((p : Int) + (r : Int)) L W J O 0 0 0
    rw [hP1] at qB1 hln
    rw [hP2] at qB2
    clear hP1 hP2 hlz hz
    generalize pblock (s.extract 0 (p + r)) p (p + r) W (depthT L) lz 0 0 0 = R at qB1 qB2 hln
    obtain ⟨qs, t, x', y', z'⟩ := R
    unfold BlkPost at qB1 qB2
    dsimp only at qB1 qB2 hln
    have qS := fun (pa pb : Option Addr) (ca cb : Nat) (w : World) (h1 : RowQ w pa qs) (h2 : RowQ w pb qs) => rsame_p pa pb qs qs ca cb w h1 h2 (by omega)
    rw [decide_eq_true (rfl : qs = qs)] at qS
    have b1 : 0 ≤ (p : Int) + (r : Int) := by omega
    have b2 : (p : Int) + (r : Int) ≤ (s.size : Int) := by omega
    have b3 : ((p : Int) + (r : Int)).toNat = p + r := by omega
    have b4 : ¬ 9223372036854775807 < (s.extract 0 (p + r)).size + m.size := by omega
    have a3 : IntKind.i64.wrap ((p : Int) + (r : Int)) = (p : Int) + (r : Int) := IntWalk.i64_in _ (by omega)
    have hz1 := hb1.size
    clear qM1 qM2 hSz hT hc0 hpk
    go_cut [14, 15, 16, 17] (fun s1 s2 s3 s4 wx => ∃ (pa : Option Addr) (ca B : Nat), s1 = .slice pa qs.length ca ∧ s2 = .string t ∧ s3 = .pointer (some ⟨B, 0, none⟩) ∧ s4 = .int .i64 0 ∧ RowQ wx pa qs ∧ wx.cell? ⟨B, 0, none⟩ = some (.int .i64 x') ∧ wx.cell? ⟨B, 1, none⟩ = some (.int .i64 y') ∧ wx.cell? ⟨B, 2, none⟩ = some (.int .i64 z') ∧ B < wx.heap.size ∧ Below w1.heap.size w1 wx)
    case first =>
      go_region_with (first | (go_at_call 42; refine (qP _).mono ?_; rintro en WP ⟨rfl, HB⟩; have hsz := HB.size; (try simp at hsz); (first | (have hbl := blater2 HA (by first | exact Nat.le_refl _ | (simp; done) | (simp; omega)) HB; obtain ⟨hcc, hff, HA, hne, hne'⟩ := hbl) | (obtain ⟨hcc, hff, HA, hne, hne'⟩ := blater1 HB)); (try simp only [World.size_alloc, World.size_setCell] at HA)) | (go_at_call 36; refine (qB1 _).mono ?_; rintro en WB ⟨pa, ca, rfl, hga, hra, HC⟩; have hsz := HC.size; (try simp at hsz); (first | (have hbl := blater2 HA (by first | exact Nat.le_refl _ | (simp; done) | (simp; omega)) HC; obtain ⟨hcc, hff, HA, hne, hne'⟩ := hbl) | (obtain ⟨hcc, hff, HA, hne, hne'⟩ := blater1 HC)); (try simp only [World.size_alloc, World.size_setCell] at HA); (try (have hcd := (fun b o h => hcc b o (Or.inr h)); have hfd := (fun b o h => hff b o (Or.inr h)); have hce := (fun b o h => hcc b o (Or.inl h)); have hfe := (fun b o h => hff b o (Or.inl h))))))
      all_goals (go_wp2_with fail; go_meet; go_light)
      all_goals
        refine ⟨pa, ca, _, rfl, rfl, rfl, rfl, ?_, by simp [go_sem, *], by simp [go_sem, *], by simp [go_sem, *], by first | (simp; done) | (simp; omega), ?_⟩
        · first | (with_reducible exact hra.later ((Below.refl _ _).alloc (Nat.le_refl _) _)) | exact ((hra.setLow hga (by first | (simp; done) | (simp; omega)) _).setLow hga (by first | (simp; done) | (simp; omega)) _).setLow hga (by first | (simp; done) | (simp; omega)) _
        · repeat' (first | with_reducible exact Below.refl _ _ | with_reducible refine Below.drew ?_ | with_reducible refine below_drewN ?_ _ | with_reducible refine Below.alloc ?_ (by first | omega | (simp <;> omega)) _ | with_reducible refine Below.setCell ?_ (by first | omega | (dsimp only; omega) | (simp <;> omega)) _ | with_reducible refine Below.trans ?_ (Below.mono (by assumption) (by first | omega | (simp <;> omega))))
    case rest =>
      obtain ⟨wb, hwb⟩ : ∃ wb, wb = wc := ⟨_, rfl⟩
      subst hwb
      obtain ⟨pa, ca, B, rfl, rfl, rfl, rfl, hR1, c0, c1, c2, hlB, hb2⟩ := hcut
      have hB2 := hb2.size
      clear qB1
      go_wp2
      go_cut [18, 19, 20, 21] (fun s1 s2 s3 s4 wx => ∃ (pa : Option Addr) (ca B : Nat), s1 = .slice pa qs.length ca ∧ s2 = .string t ∧ s3 = .pointer (some ⟨B, 0, none⟩) ∧ s4 = .int .i64 0 ∧ RowQ wx pa qs ∧ wx.cell? ⟨B, 0, none⟩ = some (.int .i64 x') ∧ wx.cell? ⟨B, 1, none⟩ = some (.int .i64 y') ∧ wx.cell? ⟨B, 2, none⟩ = some (.int .i64 z') ∧ B < wx.heap.size ∧ Below wb.heap.size wb wx)
      case first =>
        go_region_with (first | (go_at_call 42; refine (qP _).mono ?_; rintro en WP ⟨rfl, HB⟩; have hsz := HB.size; (try simp at hsz); (first | (have hbl := blater2 HA (by first | exact Nat.le_refl _ | (simp; done) | (simp; omega)) HB; obtain ⟨hcc, hff, HA, hne, hne'⟩ := hbl) | (obtain ⟨hcc, hff, HA, hne, hne'⟩ := blater1 HB)); (try simp only [World.size_alloc, World.size_setCell] at HA)) | (go_at_call 36; refine (qB2 _).mono ?_; rintro en WB ⟨pa, ca, rfl, hga, hra, HC⟩; have hsz := HC.size; (try simp at hsz); (first | (have hbl := blater2 HA (by first | exact Nat.le_refl _ | (simp; done) | (simp; omega)) HC; obtain ⟨hcc, hff, HA, hne, hne'⟩ := hbl) | (obtain ⟨hcc, hff, HA, hne, hne'⟩ := blater1 HC)); (try simp only [World.size_alloc, World.size_setCell] at HA); (try (have hcd := (fun b o h => hcc b o (Or.inr h)); have hfd := (fun b o h => hff b o (Or.inr h)); have hce := (fun b o h => hcc b o (Or.inl h)); have hfe := (fun b o h => hff b o (Or.inl h))))))
        all_goals (go_wp2_with fail; go_meet; go_light)
        all_goals
          refine ⟨pa, ca, _, rfl, rfl, rfl, rfl, ?_, by simp [go_sem, *], by simp [go_sem, *], by simp [go_sem, *], by first | (simp; done) | (simp; omega), ?_⟩
          · first | (with_reducible exact hra.later ((Below.refl _ _).alloc (Nat.le_refl _) _)) | exact ((hra.setLow hga (by first | (simp; done) | (simp; omega)) _).setLow hga (by first | (simp; done) | (simp; omega)) _).setLow hga (by first | (simp; done) | (simp; omega)) _
          · repeat' (first | with_reducible exact Below.refl _ _ | with_reducible refine Below.drew ?_ | with_reducible refine below_drewN ?_ _ | with_reducible refine Below.alloc ?_ (by first | omega | (simp <;> omega)) _ | with_reducible refine Below.setCell ?_ (by first | omega | (dsimp only; omega) | (simp <;> omega)) _ | with_reducible refine Below.trans ?_ (Below.mono (by assumption) (by first | omega | (simp <;> omega))))
      case rest =>
        obtain ⟨pb, cb, D, rfl, rfl, rfl, rfl, hR2, d0, d1, d2, hlD, hb3⟩ := hcut
        have hR3 := hR1.later hb3
        have g0 : wc.cell? ⟨B, 0, none⟩ = some (.int .i64 x') := (hb3.cell (p := ⟨B, 0, none⟩) hlB).trans c0
        have g1 : wc.cell? ⟨B, 1, none⟩ = some (.int .i64 y') := (hb3.cell (p := ⟨B, 1, none⟩) hlB).trans c1
        have g2 : wc.cell? ⟨B, 2, none⟩ = some (.int .i64 z') := (hb3.cell (p := ⟨B, 2, none⟩) hlB).trans c2
        have hB3 := hb3.size
        have hb4 : Below w.heap.size w wc := (hb1.trans (hb2.mono (by omega))).trans (hb3.mono (by omega))
        have hlB2 : B < wc.heap.size := by omega
        have hs9 := hb4.size
        clear qB2 c0 c1 c2 hb2 hb3 hR1 hB2 hb1 hB3
        go_wp2_with (first | (go_at_call 40; refine (qS _ _ _ _ _ hR3 hR2).mono ?_; rintro en wS ⟨rfl, hbS⟩; have hsz := hbS.size; (try simp at hsz); (first | (have hbl := blater2 HA (by first | exact Nat.le_refl _ | (simp; done) | (simp; omega)) hbS; obtain ⟨hcc, hff, HA, hne, hne'⟩ := hbl) | (obtain ⟨hcc, hff, HA, hne, hne'⟩ := blater1 hbS)); (try simp only [World.size_alloc, World.size_setCell] at HA)) | (go_at_call 35; refine (awake_p24 _).mono ?_; rintro en wa ⟨rfl, hba⟩; have hsz := hba.size; (try simp at hsz)))
        go_light
        refine bodyPost_ret (v := .bool true) (by simp [results, Try.results12, go_sem, *]) rfl ⟨rfl, ?_⟩
        repeat' (first | with_reducible exact Below.refl _ _ | with_reducible refine Below.drew ?_ | with_reducible refine below_drewN ?_ _ | with_reducible refine Below.alloc ?_ (by first | omega | (simp <;> omega)) _ | with_reducible refine Below.setCell ?_ (by first | omega | (dsimp only; omega) | (simp <;> omega)) _ | with_reducible refine Below.trans ?_ (Below.mono (by assumption) (by first | omega | (simp <;> omega))))
end Go.Proofs.Ytammacofhdbgcaa
