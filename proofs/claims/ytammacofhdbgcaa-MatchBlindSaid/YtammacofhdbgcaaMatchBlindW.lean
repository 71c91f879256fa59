/-
  MatchBlind, walked.
-/
import Derived.Test.YtammacofhdbgcaaRows
import Derived.Test.YtammacofhdbgcaaMatchDeeperW
import Derived.Test.YtammacofhdbgcaaMatchBlindP
import Derived.Test.YtammacofhdbgcaaCommon
import Derived.Deep.Light
import Derived.Shelf.Abstract
import Derived.Shelf.RegionOpen
import Derived.OwnWalkIn
import Derived.TacticsInMore
import Derived.LoopNIn
import Derived.LoopIn
import Derived.Outline
import Derived.Deep.RegionHeld3
import Derived.BigRegion
import Derived.IntWalk
namespace Go.Proofs.Ytammacofhdbgcaa
open Go.RowKit
set_option linter.unusedSimpArgs false
set_option linter.unusedVariables false
open Go.Shelf
attribute [local go_sem] eq32 Oper.semAt_some

theorem RowM.other {w : World} {a : Option Addr} {ms : List (Int × Int × Int × Int)} (h : RowM w a ms) {p : Addr} (v : Value) (hne : ∀ b off, a = some ⟨b, off, none⟩ → b ≠ p.block) : RowM (w.setCell p v) a ms := by
  rcases h with h | ⟨b, off, ha, hb, hc⟩
  · exact .inl h
  · have hn := hne b off ha
    have key : ∀ j, (w.setCell p v).cell? ⟨b, j, none⟩ = w.cell? ⟨b, j, none⟩ := fun j => by
      unfold World.cell?
      simp [World.setCell, Array.getElem?_modify, Ne.symm hn]
    refine .inr ⟨b, off, ha, by simpa using hb, fun i hi => ?_⟩
    rw [key, key, key, key]
    exact hc i hi
/-- make([]byte, n). -/
theorem mk_bytesN (n : Nat) (hn : n ≤ 17592186044416) (w : World) : (Instr.makeSlice 43 (.int .i64 (n : Int)) (.int .i64 (n : Int))).run Try.prog w =
    .ok (.slice (some ⟨w.heap.size, 0, none⟩) n n) (w.alloc (.cells (madeCells #[.int .u8 0] n) 5)) := by
  obtain ⟨i, hi, hz0, hz1, hz2⟩ := info_parts infoU8k
  have := run_make (P := Try.prog) w 43 5 i (.int .u8 0) Try.underlying43 hi hz0 .i64 .i64 n n (by omega) (Int.le_refl _) (by rw [hz2]; omega) (by omega)
  rw [this, hz1]
  simp [Value.cells]
theorem zeros_conv (n : Nat) (hn : n ≤ 20) : ∃ Z : ByteArray, Z.size = n ∧ ∀ w : World, (convert 43 9 (.slice (some ⟨w.heap.size, 0, none⟩) n n)).run Try.prog (w.alloc (.cells (madeCells #[.int .u8 0] n) 5)).drew = .ok (.string Z) (w.alloc (.cells (madeCells #[.int .u8 0] n) 5)).drew := by
  refine ⟨strOfNums (List.replicate n 0), by rw [strSize]; simp, fun w => ?_⟩
  refine run_convert_bytes_arg (P := Try.prog) _ 43 5 Try.underlying43 Try.underlying5 w.heap.size 0 n n (List.replicate n 0) (by simp) ?_ 9 Try.underlying9
  intro i hi
  have h1 := Blk.new w 5 (madeCells #[.int .u8 0] n)
  rw [toList_madeCells_one] at h1
  have h2 := h1.cell (0 + i)
  have h3 : (w.alloc (.cells (madeCells #[.int .u8 0] n) 5)).drew.cell? ⟨w.heap.size, 0 + i, none⟩ = (w.alloc (.cells (madeCells #[.int .u8 0] n) 5)).cell? ⟨w.heap.size, 0 + i, none⟩ := rfl
  rw [h3, h2]
  simp [hi]
set_option maxRecDepth 100000 in
set_option maxHeartbeats 16000000 in
theorem matchBlind_t (pn : Option Addr) (xs : List Int) (cn : Nat) (at_ dp n en : Int) (m : ByteArray) (w : World) (hn : Row .i64 w pn xs) (hl : xs.length ≤ 9223372036854775807) :
    Calls Try.prog 4 #[.slice pn xs.length cn, .int .i64 at_, .int .i64 dp, .int .i64 n, .int .i64 en, .string m] w fun e' w' => e' = .returned (.bool true) ∧ Below w.heap.size w w' := by
  by_cases g1 : (20 : Int) < (m.size : Int)
  · skip
    go_enter Try.func4, Try.ntmps4
    go_wp2_with ((go_at_call 15; refine (mawake_t _).mono ?_; rintro e w1 ⟨rfl, hb⟩; have hsz := hb.size; (try simp at hsz)))
    repeat' (first | (go_region <;> go_wp2_with ((go_at_call 15; refine (mawake_t _).mono ?_; rintro e w1 ⟨rfl, hb⟩; have hsz := hb.size; (try simp at hsz)))))
    all_goals go_light
    all_goals (try simp only [beq_iff_eq, beq_eq_false_iff_ne, bne_iff_ne, bne_eq_false_iff_eq, ne_eq] at *)
    all_goals
      refine bodyPost_ret (v := .bool true) (by simp [results, Try.results4, go_sem, *]) rfl ⟨rfl, ?_⟩
      repeat' (first | exact Below.refl _ _ | refine Below.drew ?_ | refine below_drewN ?_ _ | refine Below.alloc ?_ (by first | omega | (simp <;> omega)) _ | refine Below.setCell ?_ (by first | omega | (simp <;> omega)) _ | refine Below.trans ?_ (Below.mono (by assumption) (by first | omega | (simp <;> omega))))
  · go_enter Try.func4, Try.ntmps4
    go_wp2_with ((go_at_call 21; refine (view_k pn xs cn at_ dp n _ hn hl).mono ?_; rintro e w1 ⟨s, p, d, a, b, c, li, hs, hp, hd1, hd2, hch, hli0, hli2, rfl, hb1⟩; have hz1 := hb1.size))
    have hm20 : m.size ≤ 20 := by omega
    obtain ⟨r, hr⟩ : ∃ r : Nat, en % ((s.size : Int) - (p : Int) + 1) = (r : Int) := ⟨(en % ((s.size : Int) - (p : Int) + 1)).toNat, by have := Int.emod_nonneg en (b := (s.size : Int) - (p : Int) + 1) (by omega); omega⟩
    have hr2 : r ≤ s.size - p := by have := Int.emod_lt_of_pos en (b := (s.size : Int) - (p : Int) + 1) (by omega); omega
    have qM := fun w => modS en ((s.size : Int) - (p : Int) + 1) (by omega) (by omega) w
    rw [hr] at qM
    clear hr
    have hA1 := view_all s p (p + r) d a b c li (by omega) (by omega) (by omega) hd1 (by omega) hch hli0
    have hcut := mofs_tail s (s.extract 0 (p + r) ++ m) 0 p (p + r) a b c li 10 d (by omega) (by omega) (fun i _ hi => by rw [byt_app_l' _ _ _ (by simp; omega), byt_ext' _ _ _ hi])
    have hA2 := view_all (s.extract 0 (p + r) ++ m) p (p + r) d a b c li (by simp; omega) (by omega) (by simp; omega) hd1 (by omega) hch hli0
    rw [hcut.2] at hA2
    have hml := rall_len s p ((p + r : Nat) : Int) 10 d a b c li
    rw [hA1] at hml
    dsimp only at hml
    obtain ⟨ms, hmsd⟩ : ∃ ms, mofs s p (p + r) a b c li (cands s p (p + r) 10 d) = ms := ⟨_, rfl⟩
    rw [hmsd] at hA1 hA2 hml
    have hms : ms.length ≤ 9223372036854775807 := by omega
    have qA1 := fun w => alls_k s p ((p + r : Nat) : Int) 10 d a b c li ms w (by omega) hA1
    have qA2 := fun w => alls_k (s.extract 0 (p + r) ++ m) p ((p + r : Nat) : Int) 10 d a b c li ms w (by simp; omega) hA2
    rw [show ((p + r : Nat) : Int) = (p : Int) + (r : Int) by omega] at qA1 qA2
    have HMS := Lib.hid hmsd
    have HCH := Lib.hid hch
    clear hA1 hA2 hcut hmsd hch
    have a1 : IntKind.i64.wrap ((s.size : Int) - (p : Int)) = (s.size : Int) - (p : Int) := IntWalk.i64_in _ (by omega)
    have a2 : IntKind.i64.wrap ((s.size : Int) - (p : Int) + 1) = (s.size : Int) - (p : Int) + 1 := IntWalk.i64_in _ (by omega)
    have a3 : IntKind.i64.wrap ((p : Int) + (r : Int)) = (p : Int) + (r : Int) := IntWalk.i64_in _ (by omega)
    go_region_held3 (fun w' => w'.cell? ⟨w1.heap.size, 0, none⟩ = some (.string s) ∧ w'.cell? ⟨w1.heap.size, 1, none⟩ = some (.int .i64 (p : Int))) (go_keep)
      (first | (go_at_call 22; refine (qM _).mono ?_; rintro e w' ⟨rfl, rfl⟩))
    clear a1 a2 a3 qM
    obtain ⟨W0, hW0⟩ : ∃ W0, (w1.alloc (.cells #[.string s, .int .i64 (p : Int), .int .i64 ((p : Int) + (r : Int)), .int .i64 10, .int .i64 (d : Int), .int .i64 a, .int .i64 b, .int .i64 c, .int .i64 li] 25)).drew = W0 := ⟨_, rfl⟩
    have v0 : W0.cell? ⟨w1.heap.size, 0, none⟩ = some (.string s) := by rw [← hW0]; clear hW0; simp [go_sem]
    have v1 : W0.cell? ⟨w1.heap.size, 1, none⟩ = some (.int .i64 (p : Int)) := by rw [← hW0]; clear hW0; simp [go_sem]
    have v2 : W0.cell? ⟨w1.heap.size, 2, none⟩ = some (.int .i64 ((p : Int) + (r : Int))) := by rw [← hW0]; clear hW0; simp [go_sem]
    have v3 : W0.cell? ⟨w1.heap.size, 3, none⟩ = some (.int .i64 10) := by rw [← hW0]; clear hW0; simp [go_sem]
    have v4 : W0.cell? ⟨w1.heap.size, 4, none⟩ = some (.int .i64 (d : Int)) := by rw [← hW0]; clear hW0; simp [go_sem]
    have v5 : W0.cell? ⟨w1.heap.size, 5, none⟩ = some (.int .i64 a) := by rw [← hW0]; clear hW0; simp [go_sem]
    have v6 : W0.cell? ⟨w1.heap.size, 6, none⟩ = some (.int .i64 b) := by rw [← hW0]; clear hW0; simp [go_sem]
    have v7 : W0.cell? ⟨w1.heap.size, 7, none⟩ = some (.int .i64 c) := by rw [← hW0]; clear hW0; simp [go_sem]
    have v8 : W0.cell? ⟨w1.heap.size, 8, none⟩ = some (.int .i64 li) := by rw [← hW0]; clear hW0; simp [go_sem]
    have hS0 : W0.heap.size = w1.heap.size + 1 := by rw [← hW0]; simp
    have l0 : w1.heap.size < W0.heap.size := by omega
    have B0 : Below w.heap.size w W0 := by
      rw [← hW0]
      repeat' (first | exact Below.refl _ _ | refine Below.drew ?_ | refine below_drewN ?_ _ | refine Below.alloc ?_ (by first | omega | (simp <;> omega)) _ | refine Below.setCell ?_ (by first | omega | (simp <;> omega)) _ | refine Below.trans ?_ (Below.mono (by assumption) (by first | omega | (simp <;> omega))))
    rw [hW0]
    clear hW0 hb1 hn
    have b1 : 0 ≤ (p : Int) + (r : Int) := by omega
    have b2 : (p : Int) + (r : Int) ≤ (s.size : Int) := by omega
    have b3 : ((p : Int) + (r : Int)).toNat = p + r := by omega
    have b4 : ¬ 9223372036854775807 < (s.extract 0 (p + r)).size + m.size := by simp; omega
    go_wp2_with (first | (go_at_call 23; (with_reducible refine (qA1 _).mono ?_); rintro e w2 ⟨pa, ca, hca, rfl, hoa, hrA, hb2⟩; have hz2 := hb2.size; have u0 : w2.cell? ⟨w1.heap.size, 0, none⟩ = some (.string s) := (hb2.cell (p := ⟨w1.heap.size, 0, none⟩) l0).trans v0; have u1 : w2.cell? ⟨w1.heap.size, 1, none⟩ = some (.int .i64 (p : Int)) := (hb2.cell (p := ⟨w1.heap.size, 1, none⟩) l0).trans v1; have u2 : w2.cell? ⟨w1.heap.size, 2, none⟩ = some (.int .i64 ((p : Int) + (r : Int))) := (hb2.cell (p := ⟨w1.heap.size, 2, none⟩) l0).trans v2; have u3 : w2.cell? ⟨w1.heap.size, 3, none⟩ = some (.int .i64 10) := (hb2.cell (p := ⟨w1.heap.size, 3, none⟩) l0).trans v3; have u4 : w2.cell? ⟨w1.heap.size, 4, none⟩ = some (.int .i64 (d : Int)) := (hb2.cell (p := ⟨w1.heap.size, 4, none⟩) l0).trans v4; have u5 : w2.cell? ⟨w1.heap.size, 5, none⟩ = some (.int .i64 a) := (hb2.cell (p := ⟨w1.heap.size, 5, none⟩) l0).trans v5; have u6 : w2.cell? ⟨w1.heap.size, 6, none⟩ = some (.int .i64 b) := (hb2.cell (p := ⟨w1.heap.size, 6, none⟩) l0).trans v6; have u7 : w2.cell? ⟨w1.heap.size, 7, none⟩ = some (.int .i64 c) := (hb2.cell (p := ⟨w1.heap.size, 7, none⟩) l0).trans v7; have u8 : w2.cell? ⟨w1.heap.size, 8, none⟩ = some (.int .i64 li) := (hb2.cell (p := ⟨w1.heap.size, 8, none⟩) l0).trans v8; have l2 : w1.heap.size < w2.heap.size := (by omega)) | (go_at_call 23; (with_reducible refine (qA2 _).mono ?_); rintro e w3 ⟨pb, cb, hcb, rfl, hob, hrB, hb3⟩; have hz3 := hb3.size; (simp at hz3); have hrA3 := hrA.later (((Below.refl _ w2).alloc (Nat.le_refl _) _).trans (hb3.mono (by simp))); have hb23 : Below w2.heap.size w2 w3 := (((Below.refl _ w2).alloc (Nat.le_refl _) _).trans (hb3.mono (by simp))); have hBk3 := (Blk.new w2 25 #[.string (s.extract 0 (p + r) ++ m), .int .i64 (p : Int), .int .i64 ((p : Int) + (r : Int)), .int .i64 10, .int .i64 (d : Int), .int .i64 a, .int .i64 b, .int .i64 c, .int .i64 li]).later hb3) | (go_at_call 20; refine (sameM_k _ _ ms _ _ _ _ rfl hrA3 hrB hms).mono ?_; rintro e w4 ⟨rfl, hb4⟩; have hz4 := hb4.size; have hb24 : Below w2.heap.size w2 w4 := hb23.trans (hb4.mono (by omega)); have hBk4 := hBk3.later hb4; have y0 : w4.cell? ⟨w1.heap.size, 0, none⟩ = some (.string s) := (hb24.cell (p := ⟨w1.heap.size, 0, none⟩) l2).trans u0; have y1 : w4.cell? ⟨w1.heap.size, 1, none⟩ = some (.int .i64 (p : Int)) := (hb24.cell (p := ⟨w1.heap.size, 1, none⟩) l2).trans u1; have y2 : w4.cell? ⟨w1.heap.size, 2, none⟩ = some (.int .i64 ((p : Int) + (r : Int))) := (hb24.cell (p := ⟨w1.heap.size, 2, none⟩) l2).trans u2; have y3 : w4.cell? ⟨w1.heap.size, 3, none⟩ = some (.int .i64 10) := (hb24.cell (p := ⟨w1.heap.size, 3, none⟩) l2).trans u3; have y4 : w4.cell? ⟨w1.heap.size, 4, none⟩ = some (.int .i64 (d : Int)) := (hb24.cell (p := ⟨w1.heap.size, 4, none⟩) l2).trans u4; have y5 : w4.cell? ⟨w1.heap.size, 5, none⟩ = some (.int .i64 a) := (hb24.cell (p := ⟨w1.heap.size, 5, none⟩) l2).trans u5; have y6 : w4.cell? ⟨w1.heap.size, 6, none⟩ = some (.int .i64 b) := (hb24.cell (p := ⟨w1.heap.size, 6, none⟩) l2).trans u6; have y7 : w4.cell? ⟨w1.heap.size, 7, none⟩ = some (.int .i64 c) := (hb24.cell (p := ⟨w1.heap.size, 7, none⟩) l2).trans u7; have y8 : w4.cell? ⟨w1.heap.size, 8, none⟩ = some (.int .i64 li) := (hb24.cell (p := ⟨w1.heap.size, 8, none⟩) l2).trans u8; have k0 : w4.cell? ⟨w2.heap.size, 0, none⟩ = some (.string (s.extract 0 (p + r) ++ m)) := hBk4.cell 0; have k1 : w4.cell? ⟨w2.heap.size, 1, none⟩ = some (.int .i64 (p : Int)) := hBk4.cell 1; have k2 : w4.cell? ⟨w2.heap.size, 2, none⟩ = some (.int .i64 ((p : Int) + (r : Int))) := hBk4.cell 2; have k3 : w4.cell? ⟨w2.heap.size, 3, none⟩ = some (.int .i64 10) := hBk4.cell 3; have k4 : w4.cell? ⟨w2.heap.size, 4, none⟩ = some (.int .i64 (d : Int)) := hBk4.cell 4; have k5 : w4.cell? ⟨w2.heap.size, 5, none⟩ = some (.int .i64 a) := hBk4.cell 5; have k6 : w4.cell? ⟨w2.heap.size, 6, none⟩ = some (.int .i64 b) := hBk4.cell 6; have k7 : w4.cell? ⟨w2.heap.size, 7, none⟩ = some (.int .i64 c) := hBk4.cell 7; have k8 : w4.cell? ⟨w2.heap.size, 8, none⟩ = some (.int .i64 li) := hBk4.cell 8; have kf : ∀ i, w4.frozen? ⟨w2.heap.size, i, none⟩ = false := (fun i => hBk4.frozen i); have lz : w2.heap.size < w4.heap.size := hBk4.lt; have lv : w1.heap.size < w4.heap.size := (by omega); have hrA4 := hrA3.later hb4; have nv : ¬ w1.heap.size = w2.heap.size := (by omega); have nv' : ¬ w2.heap.size = w1.heap.size := (by omega)))
    have hBV := (((((((((hBk4.set 0 (.string s)).set 1 (.int .i64 (p : Int))).set 2 (.int .i64 ((p : Int) + (r : Int)))).set 3 (.int .i64 10)).set 4 (.int .i64 (d : Int))).set 5 (.int .i64 a)).set 6 (.int .i64 b)).set 7 (.int .i64 c)).set 8 (.int .i64 li))
    have bV := (Below.setCell (p := ⟨w2.heap.size, 8, none⟩) (Below.setCell (p := ⟨w2.heap.size, 7, none⟩) (Below.setCell (p := ⟨w2.heap.size, 6, none⟩) (Below.setCell (p := ⟨w2.heap.size, 5, none⟩) (Below.setCell (p := ⟨w2.heap.size, 4, none⟩) (Below.setCell (p := ⟨w2.heap.size, 3, none⟩) (Below.setCell (p := ⟨w2.heap.size, 2, none⟩) (Below.setCell (p := ⟨w2.heap.size, 1, none⟩) (Below.setCell (p := ⟨w2.heap.size, 0, none⟩) (Below.refl w2.heap.size w4) (Nat.le_refl _) (.string s)) (Nat.le_refl _) (.int .i64 (p : Int))) (Nat.le_refl _) (.int .i64 ((p : Int) + (r : Int)))) (Nat.le_refl _) (.int .i64 10)) (Nat.le_refl _) (.int .i64 (d : Int))) (Nat.le_refl _) (.int .i64 a)) (Nat.le_refl _) (.int .i64 b)) (Nat.le_refl _) (.int .i64 c)) (Nat.le_refl _) (.int .i64 li))
    have hzV : ((((((((((w4.setCell ⟨w2.heap.size, 0, none⟩ (.string s)).setCell ⟨w2.heap.size, 1, none⟩ (.int .i64 (p : Int))).setCell ⟨w2.heap.size, 2, none⟩ (.int .i64 ((p : Int) + (r : Int)))).setCell ⟨w2.heap.size, 3, none⟩ (.int .i64 10)).setCell ⟨w2.heap.size, 4, none⟩ (.int .i64 (d : Int))).setCell ⟨w2.heap.size, 5, none⟩ (.int .i64 a)).setCell ⟨w2.heap.size, 6, none⟩ (.int .i64 b)).setCell ⟨w2.heap.size, 7, none⟩ (.int .i64 c)).setCell ⟨w2.heap.size, 8, none⟩ (.int .i64 li))).heap.size = w4.heap.size := by simp
    generalize (((((((((w4.setCell ⟨w2.heap.size, 0, none⟩ (.string s)).setCell ⟨w2.heap.size, 1, none⟩ (.int .i64 (p : Int))).setCell ⟨w2.heap.size, 2, none⟩ (.int .i64 ((p : Int) + (r : Int)))).setCell ⟨w2.heap.size, 3, none⟩ (.int .i64 10)).setCell ⟨w2.heap.size, 4, none⟩ (.int .i64 (d : Int))).setCell ⟨w2.heap.size, 5, none⟩ (.int .i64 a)).setCell ⟨w2.heap.size, 6, none⟩ (.int .i64 b)).setCell ⟨w2.heap.size, 7, none⟩ (.int .i64 c)).setCell ⟨w2.heap.size, 8, none⟩ (.int .i64 li)) = V4 at hBV bV hzV ⊢
    replace hBV : Blk V4 w2.heap.size 25 [.string s, .int .i64 (p : Int), .int .i64 ((p : Int) + (r : Int)), .int .i64 10, .int .i64 (d : Int), .int .i64 a, .int .i64 b, .int .i64 c, .int .i64 li] := hBV
    refine (noise_k _ _ _ _).mono ?_
    rintro e w5 ⟨t, rfl, hst, hb5⟩
    have ht : t.size = 1024 := hst
    have hz5 := hb5.size
    have hbX : Below w2.heap.size w4 w5 := bV.trans (hb5.mono (by omega))
    have hBk5 := hBV.later hb5
    have x0 : w5.cell? ⟨w1.heap.size, 0, none⟩ = some (.string s) := (hbX.cell (p := ⟨w1.heap.size, 0, none⟩) l2).trans y0
    have x1 : w5.cell? ⟨w1.heap.size, 1, none⟩ = some (.int .i64 (p : Int)) := (hbX.cell (p := ⟨w1.heap.size, 1, none⟩) l2).trans y1
    have x2 : w5.cell? ⟨w1.heap.size, 2, none⟩ = some (.int .i64 ((p : Int) + (r : Int))) := (hbX.cell (p := ⟨w1.heap.size, 2, none⟩) l2).trans y2
    have x3 : w5.cell? ⟨w1.heap.size, 3, none⟩ = some (.int .i64 10) := (hbX.cell (p := ⟨w1.heap.size, 3, none⟩) l2).trans y3
    have x4 : w5.cell? ⟨w1.heap.size, 4, none⟩ = some (.int .i64 (d : Int)) := (hbX.cell (p := ⟨w1.heap.size, 4, none⟩) l2).trans y4
    have x5 : w5.cell? ⟨w1.heap.size, 5, none⟩ = some (.int .i64 a) := (hbX.cell (p := ⟨w1.heap.size, 5, none⟩) l2).trans y5
    have x6 : w5.cell? ⟨w1.heap.size, 6, none⟩ = some (.int .i64 b) := (hbX.cell (p := ⟨w1.heap.size, 6, none⟩) l2).trans y6
    have x7 : w5.cell? ⟨w1.heap.size, 7, none⟩ = some (.int .i64 c) := (hbX.cell (p := ⟨w1.heap.size, 7, none⟩) l2).trans y7
    have x8 : w5.cell? ⟨w1.heap.size, 8, none⟩ = some (.int .i64 li) := (hbX.cell (p := ⟨w1.heap.size, 8, none⟩) l2).trans y8
    have kk0 : w5.cell? ⟨w2.heap.size, 0, none⟩ = some (.string s) := hBk5.cell 0
    have kk1 : w5.cell? ⟨w2.heap.size, 1, none⟩ = some (.int .i64 (p : Int)) := hBk5.cell 1
    have kk2 : w5.cell? ⟨w2.heap.size, 2, none⟩ = some (.int .i64 ((p : Int) + (r : Int))) := hBk5.cell 2
    have kk3 : w5.cell? ⟨w2.heap.size, 3, none⟩ = some (.int .i64 10) := hBk5.cell 3
    have kk4 : w5.cell? ⟨w2.heap.size, 4, none⟩ = some (.int .i64 (d : Int)) := hBk5.cell 4
    have kk5 : w5.cell? ⟨w2.heap.size, 5, none⟩ = some (.int .i64 a) := hBk5.cell 5
    have kk6 : w5.cell? ⟨w2.heap.size, 6, none⟩ = some (.int .i64 b) := hBk5.cell 6
    have kk7 : w5.cell? ⟨w2.heap.size, 7, none⟩ = some (.int .i64 c) := hBk5.cell 7
    have kk8 : w5.cell? ⟨w2.heap.size, 8, none⟩ = some (.int .i64 li) := hBk5.cell 8
    have kf5 : ∀ i, w5.frozen? ⟨w2.heap.size, i, none⟩ = false := fun i => hBk5.frozen i
    have lz5 : w2.heap.size < w5.heap.size := hBk5.lt
    have lv5 : w1.heap.size < w5.heap.size := by omega
    have B5 : Below w.heap.size w w5 := B0.trans ((hb2.trans (hb24.mono hz2)).mono (by omega) |>.trans (hbX.mono (by omega)))
    have HRA := Lib.hid hrA
    have hb25 := hb24.trans hbX
    clear hst hbX hBV bV hzV hBk3 hBk4 hb2 hb3 hb4 hb5 hb24 hb23 hrA hrA3 hrA4 hrB hoa hob B0 k0 k1 k2 k3 k4 k5 k6 k7 k8 kf y0 y1 y2 y3 y4 y5 y6 y7 y8 u0 u1 u2 u3 u4 u5 u6 u7 u8 v0 v1 v2 v3 v4 v5 v6 v7 v8 qA1 qA2 hz3 hz4 hz5
    obtain ⟨D, hD⟩ : ∃ D, m.size + 1024 = D := ⟨_, rfl⟩
    have hmt : (m ++ t).size = D := by rw [ByteArray.size_append, ht, hD]
    have hfar := mofs_far s (m ++ t ++ s) D p (p + r) a b c li d (by omega) (by omega) (by omega) (fun i _ => by rw [← hmt]; exact byt_app_r' (m ++ t) s i)
    have hA3 := view_all (m ++ t ++ s) (D + p) (D + (p + r)) d a b c li (by rw [ByteArray.size_append, hmt]; omega) (by omega) (by rw [ByteArray.size_append, hmt]; omega) hd1 (by omega) HCH.out hli0
    have hZ : ∀ Z : ByteArray, Z.size = m.size → Rall (Z ++ t ++ s) ((D + p : Nat) : Int) ((D + (p + r) : Nat) : Int) 10 d a b c li = (mofs (m ++ t ++ s) (D + p) (D + (p + r)) a b c li (cands (m ++ t ++ s) (D + p) (D + (p + r)) 10 d), 0) := by
      intro Z hZ
      have hzt : (Z ++ t).size = D := by rw [ByteArray.size_append, ht, hZ, hD]
      rw [view_all (Z ++ t ++ s) (D + p) (D + (p + r)) d a b c li (by rw [ByteArray.size_append, hzt]; omega) (by omega) (by rw [ByteArray.size_append, hzt]; omega) hd1 (by omega) HCH.out hli0]
      rw [(mofs_tail (m ++ t ++ s) (Z ++ t ++ s) m.size (D + p) (D + (p + r)) a b c li 10 d (by omega) (by unfold wback; omega) (fun i h1 h2 => by
        obtain ⟨j, rfl⟩ : ∃ j, i = m.size + j := ⟨i - m.size, by omega⟩
        rw [ByteArray.append_assoc, ByteArray.append_assoc, byt_app_r', ← hZ, byt_app_r'])).2]
    rw [HMS.out] at hfar
    obtain ⟨hf1, hf2⟩ := hfar
    have hml3 := mofs_len (m ++ t ++ s) (D + p) (D + (p + r)) a b c li (cands (m ++ t ++ s) (D + p) (D + (p + r)) 10 d)
    have hml1 : ms.length = (cands s p (p + r) 10 d).length := by rw [← HMS.out, mofs_len]
    have hm64 := rall_len (m ++ t ++ s) ((D + p : Nat) : Int) ((D + (p + r) : Nat) : Int) 10 d a b c li
    rw [hA3] at hm64
    obtain ⟨ms3, hms3⟩ : ∃ x, mofs (m ++ t ++ s) (D + p) (D + (p + r)) a b c li (cands (m ++ t ++ s) (D + p) (D + (p + r)) 10 d) = x := ⟨_, rfl⟩
    rw [hms3] at hA3 hZ hf2 hml3 hm64
    dsimp only at hm64
    have hle : ms.length ≤ ms3.length := by omega
    have hms3l : ms3.length ≤ 9223372036854775807 := by omega
    have eP : ((D + p : Nat) : Int) = (p : Int) + (m.size : Int) + 1024 := by omega
    have eE : ((D + (p + r) : Nat) : Int) = (p : Int) + (r : Int) + (m.size : Int) + 1024 := by omega
    have qA3 := fun w => alls_k (m ++ t ++ s) ((D + p : Nat) : Int) ((D + (p + r) : Nat) : Int) 10 d a b c li ms3 w (by rw [ByteArray.size_append, hmt]; omega) hA3
    rw [eP, eE] at qA3
    rw [eP, eE] at hZ
    have HZ := Lib.hid hZ
    have HF2 := Lib.hid hf2
    clear hA3 hZ hf1 hf2 hml3 hml1 hms3 eP eE hm64
    have c1 : IntKind.i64.wrap ((p : Int) + (m.size : Int)) = (p : Int) + (m.size : Int) := IntWalk.i64_in _ (by omega)
    have c2 : IntKind.i64.wrap ((p : Int) + (m.size : Int) + 1024) = (p : Int) + (m.size : Int) + 1024 := IntWalk.i64_in _ (by omega)
    have c3 : IntKind.i64.wrap ((p : Int) + (r : Int) + (m.size : Int)) = (p : Int) + (r : Int) + (m.size : Int) := IntWalk.i64_in _ (by omega)
    have c4 : IntKind.i64.wrap ((p : Int) + (r : Int) + (m.size : Int) + 1024) = (p : Int) + (r : Int) + (m.size : Int) + 1024 := IntWalk.i64_in _ (by omega)
    have d1 : ¬ 9223372036854775807 < m.size + t.size := by omega
    have d2 : ¬ 9223372036854775807 < (m ++ t).size + s.size := by omega
    have d3 : ¬ 9223372036854775807 < m.size + t.size + s.size := by omega
    go_wp2_with (fail)
    have nv5 : ¬ w1.heap.size = w2.heap.size := by omega
    have nv5' : ¬ w2.heap.size = w1.heap.size := by omega
    go_region
    go_wp2_with (fail)
    clear c1 c2 c3 c4
    obtain ⟨W6, hW6⟩ : ∃ W6, (((w5.setCell ⟨w2.heap.size, 0, none⟩ (.string (m ++ t ++ s))).setCell ⟨w2.heap.size, 1, none⟩ (.int .i64 ((p : Int) + (m.size : Int) + 1024))).setCell ⟨w2.heap.size, 2, none⟩ (.int .i64 ((p : Int) + (r : Int) + (m.size : Int) + 1024))).drew = W6 := ⟨_, rfl⟩
    have hBk6 : Blk W6 w2.heap.size 25 [.string (m ++ t ++ s), .int .i64 ((p : Int) + (m.size : Int) + 1024), .int .i64 ((p : Int) + (r : Int) + (m.size : Int) + 1024), .int .i64 10, .int .i64 (d : Int), .int .i64 a, .int .i64 b, .int .i64 c, .int .i64 li] := by rw [← hW6]; exact ((hBk5.set 0 (.string (m ++ t ++ s))).set 1 (.int .i64 ((p : Int) + (m.size : Int) + 1024))).set 2 (.int .i64 ((p : Int) + (r : Int) + (m.size : Int) + 1024))
    have hb56 : Below w2.heap.size w5 W6 := by rw [← hW6]; exact ((((Below.refl w2.heap.size w5).setCell (Nat.le_refl _) _).setCell (Nat.le_refl _) _).setCell (Nat.le_refl _) _).drew
    have hz6 : W6.heap.size = w5.heap.size := by rw [← hW6]; simp
    rw [hW6]
    clear hW6
    have n0 : W6.cell? ⟨w1.heap.size, 0, none⟩ = some (.string s) := (hb56.cell (p := ⟨w1.heap.size, 0, none⟩) l2).trans x0
    have B6 := B5.trans (hb56.mono (by omega))
    have hb26 := hb25.trans hb56
    have j0 : W6.cell? ⟨w2.heap.size, 0, none⟩ = some (.string (m ++ t ++ s)) := hBk6.cell 0
    have j1 : W6.cell? ⟨w2.heap.size, 1, none⟩ = some (.int .i64 ((p : Int) + (m.size : Int) + 1024)) := hBk6.cell 1
    have j2 : W6.cell? ⟨w2.heap.size, 2, none⟩ = some (.int .i64 ((p : Int) + (r : Int) + (m.size : Int) + 1024)) := hBk6.cell 2
    have j3 : W6.cell? ⟨w2.heap.size, 3, none⟩ = some (.int .i64 10) := hBk6.cell 3
    have j4 : W6.cell? ⟨w2.heap.size, 4, none⟩ = some (.int .i64 (d : Int)) := hBk6.cell 4
    have j5 : W6.cell? ⟨w2.heap.size, 5, none⟩ = some (.int .i64 a) := hBk6.cell 5
    have j6 : W6.cell? ⟨w2.heap.size, 6, none⟩ = some (.int .i64 b) := hBk6.cell 6
    have j7 : W6.cell? ⟨w2.heap.size, 7, none⟩ = some (.int .i64 c) := hBk6.cell 7
    have j8 : W6.cell? ⟨w2.heap.size, 8, none⟩ = some (.int .i64 li) := hBk6.cell 8
    clear kk0 kk1 kk2 kk3 kk4 kk5 kk6 kk7 kk8 kf5 x0 x1 x2 x3 x4 x5 x6 x7 x8 hBk5 hb56 B5 hb25
    have e0 : ∀ W, (Instr.makeSlice 43 (.int .i64 (m.size : Int)) (.int .i64 (m.size : Int))).run Try.prog W = _ := fun W => mk_bytesN m.size (by omega) W
    obtain ⟨Z, hZs, hZc⟩ := zeros_conv m.size hm20
    have qA4 := fun w => alls_k (Z ++ t ++ s) ((p : Int) + (m.size : Int) + 1024) ((p : Int) + (r : Int) + (m.size : Int) + 1024) 10 d a b c li ms3 w (by rw [ByteArray.size_append, ByteArray.size_append]; omega) (HZ.out Z hZs)
    have f1 : ¬ 9223372036854775807 < Z.size + t.size := by omega
    have f2 : ¬ 9223372036854775807 < (Z ++ t).size + s.size := by rw [ByteArray.size_append]; omega
    have f3 : ¬ 9223372036854775807 < Z.size + t.size + s.size := by omega
    have HZC := Lib.hid hZc
    clear hZc
    have lz6 : w2.heap.size < W6.heap.size := by omega
    have lv6 : w1.heap.size < W6.heap.size := by omega
    go_wp2_with (go_at_call 23; (with_reducible refine (qA3 _).mono ?_); rintro e w7 ⟨pc, cc, hcc, rfl, hoc, hrC, hb7⟩; have hz7 := hb7.size; have m0 := (hb7.cell (p := ⟨w1.heap.size, 0, none⟩) lv6).trans n0; have hBk7 := hBk6.later hb7; have o0 : w7.cell? ⟨w2.heap.size, 0, none⟩ = some (.string (m ++ t ++ s)) := hBk7.cell 0; have o1 : w7.cell? ⟨w2.heap.size, 1, none⟩ = some (.int .i64 ((p : Int) + (m.size : Int) + 1024)) := hBk7.cell 1; have o2 : w7.cell? ⟨w2.heap.size, 2, none⟩ = some (.int .i64 ((p : Int) + (r : Int) + (m.size : Int) + 1024)) := hBk7.cell 2; have o3 : w7.cell? ⟨w2.heap.size, 3, none⟩ = some (.int .i64 10) := hBk7.cell 3; have o4 : w7.cell? ⟨w2.heap.size, 4, none⟩ = some (.int .i64 (d : Int)) := hBk7.cell 4; have o5 : w7.cell? ⟨w2.heap.size, 5, none⟩ = some (.int .i64 a) := hBk7.cell 5; have o6 : w7.cell? ⟨w2.heap.size, 6, none⟩ = some (.int .i64 b) := hBk7.cell 6; have o7 : w7.cell? ⟨w2.heap.size, 7, none⟩ = some (.int .i64 c) := hBk7.cell 7; have o8 : w7.cell? ⟨w2.heap.size, 8, none⟩ = some (.int .i64 li) := hBk7.cell 8; have of7 : ∀ i, w7.frozen? ⟨w2.heap.size, i, none⟩ = false := (fun i => hBk7.frozen i); have hcv := HZC.out w7; have lz7 : w2.heap.size < w7.heap.size := (by omega); have lv7 : w1.heap.size < w7.heap.size := (by omega); have nz7 : ¬ w2.heap.size = w7.heap.size := (by omega); have nv7 : ¬ w1.heap.size = w7.heap.size := (by omega))
    go_region
    go_wp2_with (fail)
    obtain ⟨W8, hW8⟩ : ∃ W8, ((w7.setCell ⟨w2.heap.size, 0, none⟩ (.string (Z ++ t ++ s))).alloc (.cells (madeCells #[.int .u8 0] m.size) 5)).drew = W8 := ⟨_, rfl⟩
    have hb78 : Below w2.heap.size w7 W8 := by rw [← hW8]; exact (((Below.refl w2.heap.size w7).setCell (Nat.le_refl _) _).alloc (by simp; omega) _).drew
    have hrC8 : RowM W8 pc ms3 := by
      rw [← hW8]
      refine (hrC.other (p := ⟨w2.heap.size, 0, none⟩) (.string (Z ++ t ++ s)) (fun b off h => ?_)).later (((Below.refl _ _).alloc (Nat.le_refl _) _).drew)
      subst h
      have := hoc b rfl
      show b ≠ w2.heap.size
      omega
    have hz8 : W8.heap.size = w7.heap.size + 1 := by rw [← hW8]; simp
    rw [hW8]
    clear hW8 o0 o1 o2 o3 o4 o5 o6 o7 o8 of7 hcv m0 n0 hrC hBk6 hBk7
    refine (qA4 _).mono ?_
    rintro e w9 ⟨pd, cd, hcd, rfl, hod, hrD, hb9⟩
    have hz9 := hb9.size
    have hrC9 := hrC8.later hb9
    have hb29 : Below w2.heap.size w2 w9 := ((hb26.trans (hb7.mono (by omega))).trans hb78).trans (hb9.mono (by omega))
    have hrA9 := HRA.out.later hb29
    have B9 : Below w.heap.size w w9 := (((B6.trans (hb7.mono (by omega))).trans (hb78.mono (by omega))).trans (hb9.mono (by omega)))
    have hsl := fun w => run_slice_to (P := Try.prog) w 27 32 Try.underlying27 4 (by kernel_rfl) pc ms3.length cc ms.length (Nat.le_trans hle hcc)
    have hrC2 := hrC9.take ms.length
    rw [HF2.out] at hrC2
    have hleB : decide (ms.length ≤ ms3.length) = true := by simpa using hle
    clear hb7 hb78 hb26 hb29 hb9 B6 hrC8 qA3 qA4 hoc hod hcd f1 f2 f3 d1 d2 d3 e0
    go_wp2_with (first | (go_at_call 20; (with_reducible refine (sameM_k pc pd ms3 _ _ _ _ rfl hrC9 hrD hms3l).mono ?_); rintro e wa ⟨rfl, hba⟩; have hza := hba.size; have hrCa := hrC2.later hba; have hrAa := hrA9.later hba) | (go_at_call 20; (with_reducible refine (sameM_k pc pa ms _ _ _ _ rfl hrCa hrAa hms).mono ?_); rintro e wb ⟨rfl, hbb⟩; have hzb := hbb.size) | (go_at_call 15; refine (mawake_t _).mono ?_; rintro e w1 ⟨rfl, hb⟩; have hsz := hb.size; (try simp at hsz)))
    go_light
    refine bodyPost_ret (v := .bool true) (by simp [results, Try.results4, go_sem, *]) rfl ⟨rfl, ?_⟩
    exact ((B9.trans (hba.mono (by omega))).trans (hbb.mono (by omega))).trans (hb.mono (by omega))
end Go.Proofs.Ytammacofhdbgcaa
