/-
  Views made of numbers, and all their matches, walked.
-/
import Derived.Test.YtammacofhdbgcaaRows
import Derived.Test.YtammacofhdbgcaaMatchLaw
import Derived.Test.YtammacofhdbgcaaMatchPlain2
import Derived.Test.YtammacofhdbgcaaGKit
import Derived.Test.YtammacofhdbgcaaGReps
import Derived.Test.YtammacofhdbgcaaGBase
import Derived.Deep.Light
import Derived.Shelf.Abstract
import Derived.Shelf.RegionOpen
import Derived.OwnWalkIn
import Derived.TacticsInMore
import Derived.LoopNIn
import Derived.LoopIn
import Derived.Outline
namespace Go.Proofs.Ytammacofhdbgcaa
open Go.RowKit
set_option linter.unusedSimpArgs false
set_option linter.unusedVariables false
open Go.Shelf
attribute [local go_sem] eq32 Oper.semAt_some

/-- What view hands back. -/
def ViewPost (w : World) (e : Ending) (w' : World) : Prop := ∃ (s : ByteArray) (p d : Nat) (a b c li : Int), s.size ≤ 200 ∧ p ≤ s.size ∧ 1 ≤ d ∧ d ≤ 16 ∧ chkL true [a, b, c] = 0 ∧ 0 ≤ li ∧ li ≤ 2 ∧ e = .returned (.agg #[.string s, .int .i64 (p : Int), .int .i64 (s.size : Int), .int .i64 10, .int .i64 (d : Int), .int .i64 a, .int .i64 b, .int .i64 c, .int .i64 li]) ∧ Below w.heap.size w w'
set_option maxRecDepth 100000 in
set_option maxHeartbeats 4000000 in
theorem view_k (pn : Option Addr) (xs : List Int) (cn : Nat) (at_ dp n : Int) (w : World) (hn : Row .i64 w pn xs) (hl : xs.length ≤ 9223372036854775807) :
    Calls Try.prog 21 #[.slice pn xs.length cn, .int .i64 at_, .int .i64 dp, .int .i64 n] w (ViewPost w) := by
  have qI : ∀ w, Row .i64 w pn xs → Calls Try.prog 41 #[.slice pn xs.length cn, .int .i64 200] w (StrPost (SizeLe 200) w) := fun w h => by
    have := input_k pn xs cn 200 w h hl (by omega)
    simpa using this
  have qD := fun w => modK dp 16 (by omega) (by omega) w
  have qN := fun w => modK n 3 (by omega) (by omega) w
  have qR := fun w => reps_k n w
  have hk := kR_chk (n % 1073741824) (by omega)
  obtain ⟨a, ha⟩ : ∃ x, kR (n % 1073741824) 0 = x := ⟨_, rfl⟩
  obtain ⟨b, hb⟩ : ∃ x, kR (n % 1073741824) 1 = x := ⟨_, rfl⟩
  obtain ⟨c, hc⟩ : ∃ x, kR (n % 1073741824) 2 = x := ⟨_, rfl⟩
  rw [ha, hb, hc] at qR hk
  obtain ⟨D, hD⟩ : ∃ D : Nat, dp % 16 = (D : Int) := ⟨(dp % 16).toNat, by omega⟩
  have hD15 : D < 16 := by omega
  obtain ⟨li, hli⟩ : ∃ x, n % 3 = x := ⟨_, rfl⟩
  have hl0 : 0 ≤ li := by omega
  have hl2 : li ≤ 2 := by omega
  rw [hD] at qD
  rw [hli] at qN
  have HK := Lib.hid hk
  clear ha hb hc hD hli hk
  go_enter Try.func21, Try.ntmps21
  go_wp2_with (first | (go_at_call 41; refine (qI _ (hn.later ((Below.refl _ _).alloc (Nat.le_refl _) _))).mono ?_; rintro e w1 ⟨s, rfl, hs, hb1⟩; have hs2 : s.size ≤ 200 := hs; have hz1 := hb1.size; (simp at hz1); obtain ⟨P, hP⟩ : ∃ P : Nat, at_ % ((s.size : Int) + 1) = (P : Int) := ⟨(at_ % ((s.size : Int) + 1)).toNat, (by have := Int.emod_nonneg at_ (b := (s.size : Int) + 1) (by omega); omega)⟩; have hP2 : P ≤ s.size := (by have := Int.emod_lt_of_pos at_ (b := (s.size : Int) + 1) (by omega); omega); have qA := (fun w => modK at_ ((s.size : Int) + 1) (by omega) (by omega) w); rw [hP] at qA; clear hP) | (go_at_call 22; (with_reducible refine (qA _).mono ?_); rintro e w2 ⟨rfl, hb2⟩; have hz2 := hb2.size) | (go_at_call 22; (with_reducible refine (qD _).mono ?_); rintro e w3 ⟨rfl, hb3⟩; have hz3 := hb3.size) | (go_at_call 61; refine (qR _).mono ?_; rintro e w4 ⟨rfl, hb4⟩; have hz4 := hb4.size) | (go_at_call 22; (with_reducible refine (qN _).mono ?_); rintro e w5 ⟨rfl, hb5⟩; have hz5 := hb5.size; have hB5 := hb1.trans (((hb2.trans (hb3.mono hz2)).trans ((hb4.trans (hb5.mono hz4)).mono (by omega))).mono (by (try simp); omega)); have hBk := (Blk.new w 25 #[.string ⟨#[]⟩, .int .i64 0, .int .i64 0, .int .i64 0, .int .i64 0, .int .i64 0, .int .i64 0, .int .i64 0, .int .i64 0]).later hB5; have k0 : w5.cell? ⟨w.heap.size, 0, none⟩ = some (.string ⟨#[]⟩) := hBk.cell 0; have k1 : w5.cell? ⟨w.heap.size, 1, none⟩ = some (.int .i64 0) := hBk.cell 1; have k2 : w5.cell? ⟨w.heap.size, 2, none⟩ = some (.int .i64 0) := hBk.cell 2; have k3 : w5.cell? ⟨w.heap.size, 3, none⟩ = some (.int .i64 0) := hBk.cell 3; have k4 : w5.cell? ⟨w.heap.size, 4, none⟩ = some (.int .i64 0) := hBk.cell 4; have k5 : w5.cell? ⟨w.heap.size, 5, none⟩ = some (.int .i64 0) := hBk.cell 5; have k6 : w5.cell? ⟨w.heap.size, 6, none⟩ = some (.int .i64 0) := hBk.cell 6; have k7 : w5.cell? ⟨w.heap.size, 7, none⟩ = some (.int .i64 0) := hBk.cell 7; have k8 : w5.cell? ⟨w.heap.size, 8, none⟩ = some (.int .i64 0) := hBk.cell 8; have kf : ∀ i, w5.frozen? ⟨w.heap.size, i, none⟩ = false := (fun i => hBk.frozen i)))
  have hBV := (((((((((hBk.set 0 (.string s)).set 1 (.int .i64 (P : Int))).set 2 (.int .i64 (s.size : Int))).set 3 (.int .i64 10)).set 4 (.int .i64 (1 + (D : Int)))).set 5 (.int .i64 a)).set 6 (.int .i64 b)).set 7 (.int .i64 c)).set 8 (.int .i64 li))
  have bV := ((((((((((((Below.refl w.heap.size w).alloc (Nat.le_refl _) _).trans (hB5.mono (by simp))).setCell (p := ⟨w.heap.size, 0, none⟩) (by simp) (.string s)).setCell (p := ⟨w.heap.size, 1, none⟩) (by simp) (.int .i64 (P : Int))).setCell (p := ⟨w.heap.size, 2, none⟩) (by simp) (.int .i64 (s.size : Int))).setCell (p := ⟨w.heap.size, 3, none⟩) (by simp) (.int .i64 10)).setCell (p := ⟨w.heap.size, 4, none⟩) (by simp) (.int .i64 (1 + (D : Int)))).setCell (p := ⟨w.heap.size, 5, none⟩) (by simp) (.int .i64 a)).setCell (p := ⟨w.heap.size, 6, none⟩) (by simp) (.int .i64 b)).setCell (p := ⟨w.heap.size, 7, none⟩) (by simp) (.int .i64 c)).setCell (p := ⟨w.heap.size, 8, none⟩) (by simp) (.int .i64 li))
  generalize (((((((((w5.setCell ⟨w.heap.size, 0, none⟩ (.string s)).setCell ⟨w.heap.size, 1, none⟩ (.int .i64 (P : Int))).setCell ⟨w.heap.size, 2, none⟩ (.int .i64 (s.size : Int))).setCell ⟨w.heap.size, 3, none⟩ (.int .i64 10)).setCell ⟨w.heap.size, 4, none⟩ (.int .i64 (1 + (D : Int)))).setCell ⟨w.heap.size, 5, none⟩ (.int .i64 a)).setCell ⟨w.heap.size, 6, none⟩ (.int .i64 b)).setCell ⟨w.heap.size, 7, none⟩ (.int .i64 c)).setCell ⟨w.heap.size, 8, none⟩ (.int .i64 li)) = V at hBV bV ⊢
  have v0 := hBV.cell 0
  have v1 := hBV.cell 1
  have v2 := hBV.cell 2
  have v3 := hBV.cell 3
  have v4 := hBV.cell 4
  have v5 := hBV.cell 5
  have v6 := hBV.cell 6
  have v7 := hBV.cell 7
  have v8 := hBV.cell 8
  simp at v0 v1 v2 v3 v4 v5 v6 v7 v8
  clear hBV hBk hB5 k0 k1 k2 k3 k4 k5 k6 k7 k8 kf hb1 hb2 hb3 hb4 hb5
  refine bodyPost_ret (v := .agg #[.string s, .int .i64 (P : Int), .int .i64 (s.size : Int), .int .i64 10, .int .i64 (1 + (D : Int)), .int .i64 a, .int .i64 b, .int .i64 c, .int .i64 li]) (by simp [results, Try.results21, go_sem, v0, v1, v2, v3, v4, v5, v6, v7, v8]) rfl ⟨s, P, 1 + D, a, b, c, li, hs2, hP2, by omega, by omega, HK.out, hl0, hl2, by rw [show (((1 + D : Nat)) : Int) = 1 + (D : Int) by omega], bV⟩

/-- All matches, in new memory. -/
def AllsPost (ms : List (Int × Int × Int × Int)) (w : World) (e : Ending) (w' : World) : Prop :=
  ∃ pa ca, ms.length ≤ ca ∧ e = .returned (.tuple #[.slice pa ms.length ca, .bool true]) ∧ (∀ g, (Value.slice pa ms.length ca).ownBlock = some g → w.heap.size ≤ g) ∧ RowM w' pa ms ∧ Below w.heap.size w w'
set_option maxRecDepth 100000 in
set_option maxHeartbeats 2000000 in
theorem alls_k (s : ByteArray) (p e l d a b c li : Int) (ms : List (Int × Int × Int × Int)) (w : World) (hl : s.size ≤ 9223372036854775807) (hR : Rall s p e l d a b c li = (ms, 0)) :
    Calls Try.prog 23 #[.agg #[.string s, .int .i64 p, .int .i64 e, .int .i64 l, .int .i64 d, .int .i64 a, .int .i64 b, .int .i64 c, .int .i64 li]] w (AllsPost ms w) := by
  have q1 := fun w => mall_p s p e l d a b c li w hl
  rw [hR] at q1
  clear hR
  go_enter Try.func23, Try.ntmps23
  go_wp2_with ((go_at_call 16; refine (q1 _).mono ?_; rintro e w1 ⟨pa, ca, hca, rfl, hob, hrA, hb⟩; have hz := hb.size; (simp at hz)))
  go_light
  refine bodyPost_ret (results_tmp2 rfl _ _ _) rfl ⟨pa, ca, hca, by simp, fun g hg => ?_, hrA, ?_⟩
  · have := hob g hg
    simp at this
    omega
  · exact ((Below.refl _ _).alloc (Nat.le_refl _) _).trans (hb.mono (by simp))
end Go.Proofs.Ytammacofhdbgcaa
