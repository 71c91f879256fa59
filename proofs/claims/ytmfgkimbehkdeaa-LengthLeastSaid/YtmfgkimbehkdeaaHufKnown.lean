/-
  LengthKnown, walked.
-/
import Derived.Test.YtmfgkimbehkdeaaRows
import Derived.Test.YtmfgkimbehkdeaaHufLaw
import Derived.Test.YtmfgkimbehkdeaaHufNeeds
import Derived.Test.YtmfgkimbehkdeaaGBase
import Derived.Deep.Light
import Derived.Shelf.Abstract
import Derived.Shelf.RegionOpen
import Derived.OwnWalkIn
import Derived.TacticsInMore
import Derived.LoopNIn
import Derived.LoopIn
import Derived.Maps.AppendAt
import Derived.Outline
namespace Go.Proofs.Ytmfgkimbehkdeaa
open Go.RowKit
set_option linter.unusedSimpArgs false
set_option linter.unusedVariables false
attribute [local go_sem] Oper.semAt_some

/-- Two slices of the call's own that share no block. -/
structure Two (B : Nat) (v u : Value) (n m : Nat) (ps qs : List Value) (w : World) : Prop where
  own1 : w.ownsRow B 3 1 v n ps
  own2 : w.ownsRow B 3 1 u m qs
  sep : v.ownBlock = none ∨ u.ownBlock = none ∨ v.ownBlock ≠ u.ownBlock
theorem own_lt2 {w : World} {base : Nat} {e : TypeId} {v : Value} {n : Nat} {xs : List Value} (h : w.ownsRow base e 1 v n xs) : ∀ g, v.ownBlock = some g → g < w.heap.size := by
  intro g hg
  obtain ⟨c, t, q, h1⟩ := own_cells_o h g hg
  exact (Array.getElem?_eq_some_iff.1 h1).1
theorem Two.swap {B : Nat} {v u : Value} {n m : Nat} {ps qs : List Value} {w : World} (h : Two B v u n m ps qs w) : Two B u v m n qs ps w :=
  ⟨h.own2, h.own1, h.sep.elim (fun h => .inr (.inl h)) (fun h => h.elim (fun h => .inl h) (fun h => .inr (.inr (fun e => h e.symm))))⟩
theorem Two.fst {B : Nat} {v u v1 : Value} {n m n1 : Nat} {ps qs ps1 : List Value} {w w1 : World} {o : Obj} (h : Two B v u n m ps qs w) (h1 : w1.ownsRow B 3 1 v1 n1 ps1) (hg : (w.alloc o).grownBy w1 v.ownBlock) (hat : v1.ownBlock = v.ownBlock ∨ v1.ownBlock = some (w.alloc o).heap.size) : Two B v1 u n1 m ps1 qs w1 := by
  refine ⟨h1, (h.own2.alloc o).kept hg ?_, ?_⟩
  · rcases h.sep with h | h | h
    · by_cases hu : u.ownBlock = none
      · exact .inl hu
      · exact .inr (fun e => hu (e.trans h))
    · exact .inl h
    · exact .inr (fun e => h e.symm)
  · rcases hat with e | e
    · rw [e]; exact h.sep
    · right
      by_cases hu : u.ownBlock = none
      · exact .inl hu
      · right
        intro h2
        obtain ⟨g, hg2⟩ := Option.ne_none_iff_exists'.1 hu
        have := own_lt2 h.own2 g hg2
        rw [e, hg2] at h2
        simp at h2
        omega

def pws (k : Nat) : List Int := [1, 2, 4, 8, 16, 32, 64, 128, 256, 512, 1024, 2048, 4096, 8192].take k
def wts (k : Nat) : List Int := [13, 13, 12, 11, 10, 9, 8, 7, 6, 5, 4, 3, 2, 1].take k
theorem ownge1 {w : World} {base : Nat} {e : TypeId} (v : Value) {n : Nat} {xs : List Value} (h : w.ownsRow base e 1 v n xs) : ∀ g, v.ownBlock = some g → base ≤ g := own_base_o h
theorem pws_dep : rDep (pws 14) = (wts 14, 0) := by decide +kernel
theorem pws_len : rLen (pws 14) = ([11, 11, 11, 11, 10, 10, 8, 7, 6, 5, 4, 3, 2, 1], 0) := by decide +kernel
theorem pws_most : rMost2 [11, 11, 11, 11, 10, 10, 8, 7, 6, 5, 4, 3, 2, 1] = (11, 0) := by decide +kernel
set_option maxRecDepth 100000 in
set_option maxHeartbeats 8000000 in
theorem known_w (w : World) : Calls Try.prog 5 #[] w fun e w' => e = .returned (.bool true) ∧ Below w.heap.size w w' := by
  obtain ⟨i0, hi, hz0, hz1, hz2⟩ := info_parts infoInt
  have hmk : ∀ W, (Instr.makeSlice 22 (.int .i64 257) (.int .i64 257)).run Try.prog W = _ := fun W => mk_ints 257 (by omega) W
  go_enter Try.func5, Try.ntmps5
  go_wp2_with (first | (go_at_call 10; (with_reducible refine (len_x _ (List.replicate 257 0) 257 _ _ (by simp) ?_ (by decide) [] 0 6 (by decide +kernel) rfl).mono ?_); (exact Blk.row (Arr.made _ 257)); rintro e w1 ⟨pA, cA, rfl, hrA, hb⟩; have hsz := hb.size; (try simp at hsz)) | (go_at_call 15; (with_reducible refine (room_x _ [1, 3, 2, 3] 4 _ _ rfl ?_ (by decide) 2048 0 (by decide +kernel)).mono ?_); (exact (row_c4 (by simp <;> omega) (by simp [go_sem, *]) (by simp [go_sem, *]) (by simp [go_sem, *]) (by simp [go_sem, *]))); rintro e w1 ⟨rfl, hb⟩; have hsz := hb.size; (try simp at hsz)) | (go_at_call 17; (with_reducible refine (most_x _ [1, 3, 2, 3] 4 _ _ rfl ?_ (by decide) 3 0 (by decide +kernel)).mono ?_); (exact (row_c4 (by simp <;> omega) (by simp [go_sem, *]) (by simp [go_sem, *]) (by simp [go_sem, *]) (by simp [go_sem, *]))); rintro e w1 ⟨rfl, hb⟩; have hsz := hb.size; (try simp at hsz)) | (go_at_call 19; (with_reducible refine (t2 _ _ _ _ _ ?_ ?_).mono ?_); (exact (row_c3 (by simp <;> omega) (by simp [go_sem, *]) (by simp [go_sem, *]) (by simp [go_sem, *]))); (exact (row_c3 (by simp <;> omega) (by simp [go_sem, *]) (by simp [go_sem, *]) (by simp [go_sem, *]))); rintro e w1 ⟨rfl, hb⟩; have hsz := hb.size; (try simp at hsz)))
  have bW : Below w.heap.size w w1 := by
    repeat' (first | with_reducible exact Below.refl _ _ | with_reducible refine Below.drew ?_ | with_reducible refine below_drewN ?_ _ | with_reducible refine Below.alloc ?_ (by first | omega | (simp <;> omega)) _ | with_reducible refine Below.setCell ?_ (by first | omega | (dsimp only; omega) | (simp <;> omega)) _ | with_reducible refine Below.trans ?_ (Below.mono (by assumption) (by first | omega | (simp <;> omega))))
  have hBW := bW.size
  obtain ⟨BX, hBX⟩ : ∃ BX, w1.heap.size = BX := ⟨_, rfl⟩
  have B0 : Below BX w1 w1 := Below.refl _ _
  have S0 : BX ≤ w1.heap.size := by omega
  have T0 : Two BX (.slice none 0 0) (.slice none 0 0) 0 0 ((pws 0).map (Value.int .i64)) ((wts 0).map (Value.int .i64)) w1 := ⟨⟨rfl, .inl ⟨rfl, rfl⟩⟩, ⟨rfl, .inl ⟨rfl, rfl⟩⟩, .inl rfl⟩
  have HBX := Lib.hid hBX
  have HT0 := Lib.hid T0
  clear hBX hmk hrA T0
  obtain ⟨wx, hwx⟩ : ∃ wx, wx = w1 := ⟨_, rfl⟩
  subst hwx
  go_loopw [9, 10, 11] (fun vp vw vi wr => ∃ k : Nat, vi = .int .i64 (k : Int) ∧ k ≤ 14 ∧ Hid (Two BX vp vw k k ((pws k).map (Value.int .i64)) ((wts k).map (Value.int .i64)) wr) ∧ Below BX wx wr) (fun _ _ vi _ => 14 - (intOf vi).toNat)
  case atStart => exact ⟨0, rfl, by omega, HT0, B0⟩
  case round =>
    clear HT0 B0
    obtain ⟨k, rfl, hk, HT, hB⟩ := hrel
    have hszr := hB.size
    by_cases hlt : k < 14
    · have hks : k = 0 ∨ k = 1 ∨ k = 2 ∨ k = 3 ∨ k = 4 ∨ k = 5 ∨ k = 6 ∨ k = 7 ∨ k = 8 ∨ k = 9 ∨ k = 10 ∨ k = 11 ∨ k = 12 ∨ k = 13 := by omega
      clear hlt hk
      rcases hks with rfl | rfl | rfl | rfl | rfl | rfl | rfl | rfl | rfl | rfl | rfl | rfl | rfl | rfl
      · go_wp2_with (first | (at_builtin; refine wpList_append_own_at _ rfl (.tmp 43) (.tmp 47) 22 rfl BX 3 i0 (.int .i64 0) 1 8 Try.underlying22 hi hz0 hz1 hz2 rfl (by decide) _ _ _ rfl (HT.out.own1.alloc _) ⟨wr.heap.size, 0, none⟩ 1 1 [.int .i64 1] rfl rfl (cell_one_new _ _ _) (ints_oneCell .i64 [1]) (by unfold maxLen; omega) (by omega) (by simp; omega) ?_; intro v1 w1 ho1 hg1 hn1 hat1; have T1 := HT.out.fst ho1 hg1 hat1; have hs1 := hg1.size; (simp at hs1); have hs1b : BX ≤ w1.heap.size := (by omega)) | (at_builtin; refine wpList_append_own_at _ rfl (.tmp 49) (.tmp 53) 22 rfl BX 3 i0 (.int .i64 0) 1 8 Try.underlying22 hi hz0 hz1 hz2 rfl (by decide) _ _ _ rfl (T1.own2.alloc _) ⟨w1.heap.size, 0, none⟩ 1 1 [.int .i64 13] rfl rfl (cell_one_new _ _ _) (ints_oneCell .i64 [13]) (by unfold maxLen; omega) (by omega) (by simp; omega) ?_; intro v2 w2 ho2 hg2 hn2 hat2; have T2 := T1.swap.fst ho2 hg2 hat2))
        go_roundw
        case rel => exact ⟨1, rfl, by omega, Lib.hid T2.swap, ((hB.alloc (by omega) _).grown hg1 (by simp; omega) (ownge1 _ HT.out.own1)).alloc (by omega) _ |>.grown hg2 (by simp; omega) (ownge1 _ T1.own2)⟩
        case measure => go_light; simp [intOf] <;> omega
      · go_wp2_with (first | (at_builtin; refine wpList_append_own_at _ rfl (.tmp 43) (.tmp 47) 22 rfl BX 3 i0 (.int .i64 0) 1 8 Try.underlying22 hi hz0 hz1 hz2 rfl (by decide) _ _ _ rfl (HT.out.own1.alloc _) ⟨wr.heap.size, 0, none⟩ 1 1 [.int .i64 2] rfl rfl (cell_one_new _ _ _) (ints_oneCell .i64 [2]) (by unfold maxLen; omega) (by omega) (by simp; omega) ?_; intro v1 w1 ho1 hg1 hn1 hat1; have T1 := HT.out.fst ho1 hg1 hat1; have hs1 := hg1.size; (simp at hs1); have hs1b : BX ≤ w1.heap.size := (by omega)) | (at_builtin; refine wpList_append_own_at _ rfl (.tmp 49) (.tmp 53) 22 rfl BX 3 i0 (.int .i64 0) 1 8 Try.underlying22 hi hz0 hz1 hz2 rfl (by decide) _ _ _ rfl (T1.own2.alloc _) ⟨w1.heap.size, 0, none⟩ 1 1 [.int .i64 13] rfl rfl (cell_one_new _ _ _) (ints_oneCell .i64 [13]) (by unfold maxLen; omega) (by omega) (by simp; omega) ?_; intro v2 w2 ho2 hg2 hn2 hat2; have T2 := T1.swap.fst ho2 hg2 hat2))
        go_roundw
        case rel => exact ⟨2, rfl, by omega, Lib.hid T2.swap, ((hB.alloc (by omega) _).grown hg1 (by simp; omega) (ownge1 _ HT.out.own1)).alloc (by omega) _ |>.grown hg2 (by simp; omega) (ownge1 _ T1.own2)⟩
        case measure => go_light; simp [intOf] <;> omega
      · go_wp2_with (first | (at_builtin; refine wpList_append_own_at _ rfl (.tmp 43) (.tmp 47) 22 rfl BX 3 i0 (.int .i64 0) 1 8 Try.underlying22 hi hz0 hz1 hz2 rfl (by decide) _ _ _ rfl (HT.out.own1.alloc _) ⟨wr.heap.size, 0, none⟩ 1 1 [.int .i64 4] rfl rfl (cell_one_new _ _ _) (ints_oneCell .i64 [4]) (by unfold maxLen; omega) (by omega) (by simp; omega) ?_; intro v1 w1 ho1 hg1 hn1 hat1; have T1 := HT.out.fst ho1 hg1 hat1; have hs1 := hg1.size; (simp at hs1); have hs1b : BX ≤ w1.heap.size := (by omega)) | (at_builtin; refine wpList_append_own_at _ rfl (.tmp 49) (.tmp 53) 22 rfl BX 3 i0 (.int .i64 0) 1 8 Try.underlying22 hi hz0 hz1 hz2 rfl (by decide) _ _ _ rfl (T1.own2.alloc _) ⟨w1.heap.size, 0, none⟩ 1 1 [.int .i64 12] rfl rfl (cell_one_new _ _ _) (ints_oneCell .i64 [12]) (by unfold maxLen; omega) (by omega) (by simp; omega) ?_; intro v2 w2 ho2 hg2 hn2 hat2; have T2 := T1.swap.fst ho2 hg2 hat2))
        go_roundw
        case rel => exact ⟨3, rfl, by omega, Lib.hid T2.swap, ((hB.alloc (by omega) _).grown hg1 (by simp; omega) (ownge1 _ HT.out.own1)).alloc (by omega) _ |>.grown hg2 (by simp; omega) (ownge1 _ T1.own2)⟩
        case measure => go_light; simp [intOf] <;> omega
      · go_wp2_with (first | (at_builtin; refine wpList_append_own_at _ rfl (.tmp 43) (.tmp 47) 22 rfl BX 3 i0 (.int .i64 0) 1 8 Try.underlying22 hi hz0 hz1 hz2 rfl (by decide) _ _ _ rfl (HT.out.own1.alloc _) ⟨wr.heap.size, 0, none⟩ 1 1 [.int .i64 8] rfl rfl (cell_one_new _ _ _) (ints_oneCell .i64 [8]) (by unfold maxLen; omega) (by omega) (by simp; omega) ?_; intro v1 w1 ho1 hg1 hn1 hat1; have T1 := HT.out.fst ho1 hg1 hat1; have hs1 := hg1.size; (simp at hs1); have hs1b : BX ≤ w1.heap.size := (by omega)) | (at_builtin; refine wpList_append_own_at _ rfl (.tmp 49) (.tmp 53) 22 rfl BX 3 i0 (.int .i64 0) 1 8 Try.underlying22 hi hz0 hz1 hz2 rfl (by decide) _ _ _ rfl (T1.own2.alloc _) ⟨w1.heap.size, 0, none⟩ 1 1 [.int .i64 11] rfl rfl (cell_one_new _ _ _) (ints_oneCell .i64 [11]) (by unfold maxLen; omega) (by omega) (by simp; omega) ?_; intro v2 w2 ho2 hg2 hn2 hat2; have T2 := T1.swap.fst ho2 hg2 hat2))
        go_roundw
        case rel => exact ⟨4, rfl, by omega, Lib.hid T2.swap, ((hB.alloc (by omega) _).grown hg1 (by simp; omega) (ownge1 _ HT.out.own1)).alloc (by omega) _ |>.grown hg2 (by simp; omega) (ownge1 _ T1.own2)⟩
        case measure => go_light; simp [intOf] <;> omega
      · go_wp2_with (first | (at_builtin; refine wpList_append_own_at _ rfl (.tmp 43) (.tmp 47) 22 rfl BX 3 i0 (.int .i64 0) 1 8 Try.underlying22 hi hz0 hz1 hz2 rfl (by decide) _ _ _ rfl (HT.out.own1.alloc _) ⟨wr.heap.size, 0, none⟩ 1 1 [.int .i64 16] rfl rfl (cell_one_new _ _ _) (ints_oneCell .i64 [16]) (by unfold maxLen; omega) (by omega) (by simp; omega) ?_; intro v1 w1 ho1 hg1 hn1 hat1; have T1 := HT.out.fst ho1 hg1 hat1; have hs1 := hg1.size; (simp at hs1); have hs1b : BX ≤ w1.heap.size := (by omega)) | (at_builtin; refine wpList_append_own_at _ rfl (.tmp 49) (.tmp 53) 22 rfl BX 3 i0 (.int .i64 0) 1 8 Try.underlying22 hi hz0 hz1 hz2 rfl (by decide) _ _ _ rfl (T1.own2.alloc _) ⟨w1.heap.size, 0, none⟩ 1 1 [.int .i64 10] rfl rfl (cell_one_new _ _ _) (ints_oneCell .i64 [10]) (by unfold maxLen; omega) (by omega) (by simp; omega) ?_; intro v2 w2 ho2 hg2 hn2 hat2; have T2 := T1.swap.fst ho2 hg2 hat2))
        go_roundw
        case rel => exact ⟨5, rfl, by omega, Lib.hid T2.swap, ((hB.alloc (by omega) _).grown hg1 (by simp; omega) (ownge1 _ HT.out.own1)).alloc (by omega) _ |>.grown hg2 (by simp; omega) (ownge1 _ T1.own2)⟩
        case measure => go_light; simp [intOf] <;> omega
      · go_wp2_with (first | (at_builtin; refine wpList_append_own_at _ rfl (.tmp 43) (.tmp 47) 22 rfl BX 3 i0 (.int .i64 0) 1 8 Try.underlying22 hi hz0 hz1 hz2 rfl (by decide) _ _ _ rfl (HT.out.own1.alloc _) ⟨wr.heap.size, 0, none⟩ 1 1 [.int .i64 32] rfl rfl (cell_one_new _ _ _) (ints_oneCell .i64 [32]) (by unfold maxLen; omega) (by omega) (by simp; omega) ?_; intro v1 w1 ho1 hg1 hn1 hat1; have T1 := HT.out.fst ho1 hg1 hat1; have hs1 := hg1.size; (simp at hs1); have hs1b : BX ≤ w1.heap.size := (by omega)) | (at_builtin; refine wpList_append_own_at _ rfl (.tmp 49) (.tmp 53) 22 rfl BX 3 i0 (.int .i64 0) 1 8 Try.underlying22 hi hz0 hz1 hz2 rfl (by decide) _ _ _ rfl (T1.own2.alloc _) ⟨w1.heap.size, 0, none⟩ 1 1 [.int .i64 9] rfl rfl (cell_one_new _ _ _) (ints_oneCell .i64 [9]) (by unfold maxLen; omega) (by omega) (by simp; omega) ?_; intro v2 w2 ho2 hg2 hn2 hat2; have T2 := T1.swap.fst ho2 hg2 hat2))
        go_roundw
        case rel => exact ⟨6, rfl, by omega, Lib.hid T2.swap, ((hB.alloc (by omega) _).grown hg1 (by simp; omega) (ownge1 _ HT.out.own1)).alloc (by omega) _ |>.grown hg2 (by simp; omega) (ownge1 _ T1.own2)⟩
        case measure => go_light; simp [intOf] <;> omega
      · go_wp2_with (first | (at_builtin; refine wpList_append_own_at _ rfl (.tmp 43) (.tmp 47) 22 rfl BX 3 i0 (.int .i64 0) 1 8 Try.underlying22 hi hz0 hz1 hz2 rfl (by decide) _ _ _ rfl (HT.out.own1.alloc _) ⟨wr.heap.size, 0, none⟩ 1 1 [.int .i64 64] rfl rfl (cell_one_new _ _ _) (ints_oneCell .i64 [64]) (by unfold maxLen; omega) (by omega) (by simp; omega) ?_; intro v1 w1 ho1 hg1 hn1 hat1; have T1 := HT.out.fst ho1 hg1 hat1; have hs1 := hg1.size; (simp at hs1); have hs1b : BX ≤ w1.heap.size := (by omega)) | (at_builtin; refine wpList_append_own_at _ rfl (.tmp 49) (.tmp 53) 22 rfl BX 3 i0 (.int .i64 0) 1 8 Try.underlying22 hi hz0 hz1 hz2 rfl (by decide) _ _ _ rfl (T1.own2.alloc _) ⟨w1.heap.size, 0, none⟩ 1 1 [.int .i64 8] rfl rfl (cell_one_new _ _ _) (ints_oneCell .i64 [8]) (by unfold maxLen; omega) (by omega) (by simp; omega) ?_; intro v2 w2 ho2 hg2 hn2 hat2; have T2 := T1.swap.fst ho2 hg2 hat2))
        go_roundw
        case rel => exact ⟨7, rfl, by omega, Lib.hid T2.swap, ((hB.alloc (by omega) _).grown hg1 (by simp; omega) (ownge1 _ HT.out.own1)).alloc (by omega) _ |>.grown hg2 (by simp; omega) (ownge1 _ T1.own2)⟩
        case measure => go_light; simp [intOf] <;> omega
      · go_wp2_with (first | (at_builtin; refine wpList_append_own_at _ rfl (.tmp 43) (.tmp 47) 22 rfl BX 3 i0 (.int .i64 0) 1 8 Try.underlying22 hi hz0 hz1 hz2 rfl (by decide) _ _ _ rfl (HT.out.own1.alloc _) ⟨wr.heap.size, 0, none⟩ 1 1 [.int .i64 128] rfl rfl (cell_one_new _ _ _) (ints_oneCell .i64 [128]) (by unfold maxLen; omega) (by omega) (by simp; omega) ?_; intro v1 w1 ho1 hg1 hn1 hat1; have T1 := HT.out.fst ho1 hg1 hat1; have hs1 := hg1.size; (simp at hs1); have hs1b : BX ≤ w1.heap.size := (by omega)) | (at_builtin; refine wpList_append_own_at _ rfl (.tmp 49) (.tmp 53) 22 rfl BX 3 i0 (.int .i64 0) 1 8 Try.underlying22 hi hz0 hz1 hz2 rfl (by decide) _ _ _ rfl (T1.own2.alloc _) ⟨w1.heap.size, 0, none⟩ 1 1 [.int .i64 7] rfl rfl (cell_one_new _ _ _) (ints_oneCell .i64 [7]) (by unfold maxLen; omega) (by omega) (by simp; omega) ?_; intro v2 w2 ho2 hg2 hn2 hat2; have T2 := T1.swap.fst ho2 hg2 hat2))
        go_roundw
        case rel => exact ⟨8, rfl, by omega, Lib.hid T2.swap, ((hB.alloc (by omega) _).grown hg1 (by simp; omega) (ownge1 _ HT.out.own1)).alloc (by omega) _ |>.grown hg2 (by simp; omega) (ownge1 _ T1.own2)⟩
        case measure => go_light; simp [intOf] <;> omega
      · go_wp2_with (first | (at_builtin; refine wpList_append_own_at _ rfl (.tmp 43) (.tmp 47) 22 rfl BX 3 i0 (.int .i64 0) 1 8 Try.underlying22 hi hz0 hz1 hz2 rfl (by decide) _ _ _ rfl (HT.out.own1.alloc _) ⟨wr.heap.size, 0, none⟩ 1 1 [.int .i64 256] rfl rfl (cell_one_new _ _ _) (ints_oneCell .i64 [256]) (by unfold maxLen; omega) (by omega) (by simp; omega) ?_; intro v1 w1 ho1 hg1 hn1 hat1; have T1 := HT.out.fst ho1 hg1 hat1; have hs1 := hg1.size; (simp at hs1); have hs1b : BX ≤ w1.heap.size := (by omega)) | (at_builtin; refine wpList_append_own_at _ rfl (.tmp 49) (.tmp 53) 22 rfl BX 3 i0 (.int .i64 0) 1 8 Try.underlying22 hi hz0 hz1 hz2 rfl (by decide) _ _ _ rfl (T1.own2.alloc _) ⟨w1.heap.size, 0, none⟩ 1 1 [.int .i64 6] rfl rfl (cell_one_new _ _ _) (ints_oneCell .i64 [6]) (by unfold maxLen; omega) (by omega) (by simp; omega) ?_; intro v2 w2 ho2 hg2 hn2 hat2; have T2 := T1.swap.fst ho2 hg2 hat2))
        go_roundw
        case rel => exact ⟨9, rfl, by omega, Lib.hid T2.swap, ((hB.alloc (by omega) _).grown hg1 (by simp; omega) (ownge1 _ HT.out.own1)).alloc (by omega) _ |>.grown hg2 (by simp; omega) (ownge1 _ T1.own2)⟩
        case measure => go_light; simp [intOf] <;> omega
      · go_wp2_with (first | (at_builtin; refine wpList_append_own_at _ rfl (.tmp 43) (.tmp 47) 22 rfl BX 3 i0 (.int .i64 0) 1 8 Try.underlying22 hi hz0 hz1 hz2 rfl (by decide) _ _ _ rfl (HT.out.own1.alloc _) ⟨wr.heap.size, 0, none⟩ 1 1 [.int .i64 512] rfl rfl (cell_one_new _ _ _) (ints_oneCell .i64 [512]) (by unfold maxLen; omega) (by omega) (by simp; omega) ?_; intro v1 w1 ho1 hg1 hn1 hat1; have T1 := HT.out.fst ho1 hg1 hat1; have hs1 := hg1.size; (simp at hs1); have hs1b : BX ≤ w1.heap.size := (by omega)) | (at_builtin; refine wpList_append_own_at _ rfl (.tmp 49) (.tmp 53) 22 rfl BX 3 i0 (.int .i64 0) 1 8 Try.underlying22 hi hz0 hz1 hz2 rfl (by decide) _ _ _ rfl (T1.own2.alloc _) ⟨w1.heap.size, 0, none⟩ 1 1 [.int .i64 5] rfl rfl (cell_one_new _ _ _) (ints_oneCell .i64 [5]) (by unfold maxLen; omega) (by omega) (by simp; omega) ?_; intro v2 w2 ho2 hg2 hn2 hat2; have T2 := T1.swap.fst ho2 hg2 hat2))
        go_roundw
        case rel => exact ⟨10, rfl, by omega, Lib.hid T2.swap, ((hB.alloc (by omega) _).grown hg1 (by simp; omega) (ownge1 _ HT.out.own1)).alloc (by omega) _ |>.grown hg2 (by simp; omega) (ownge1 _ T1.own2)⟩
        case measure => go_light; simp [intOf] <;> omega
      · go_wp2_with (first | (at_builtin; refine wpList_append_own_at _ rfl (.tmp 43) (.tmp 47) 22 rfl BX 3 i0 (.int .i64 0) 1 8 Try.underlying22 hi hz0 hz1 hz2 rfl (by decide) _ _ _ rfl (HT.out.own1.alloc _) ⟨wr.heap.size, 0, none⟩ 1 1 [.int .i64 1024] rfl rfl (cell_one_new _ _ _) (ints_oneCell .i64 [1024]) (by unfold maxLen; omega) (by omega) (by simp; omega) ?_; intro v1 w1 ho1 hg1 hn1 hat1; have T1 := HT.out.fst ho1 hg1 hat1; have hs1 := hg1.size; (simp at hs1); have hs1b : BX ≤ w1.heap.size := (by omega)) | (at_builtin; refine wpList_append_own_at _ rfl (.tmp 49) (.tmp 53) 22 rfl BX 3 i0 (.int .i64 0) 1 8 Try.underlying22 hi hz0 hz1 hz2 rfl (by decide) _ _ _ rfl (T1.own2.alloc _) ⟨w1.heap.size, 0, none⟩ 1 1 [.int .i64 4] rfl rfl (cell_one_new _ _ _) (ints_oneCell .i64 [4]) (by unfold maxLen; omega) (by omega) (by simp; omega) ?_; intro v2 w2 ho2 hg2 hn2 hat2; have T2 := T1.swap.fst ho2 hg2 hat2))
        go_roundw
        case rel => exact ⟨11, rfl, by omega, Lib.hid T2.swap, ((hB.alloc (by omega) _).grown hg1 (by simp; omega) (ownge1 _ HT.out.own1)).alloc (by omega) _ |>.grown hg2 (by simp; omega) (ownge1 _ T1.own2)⟩
        case measure => go_light; simp [intOf] <;> omega
      · go_wp2_with (first | (at_builtin; refine wpList_append_own_at _ rfl (.tmp 43) (.tmp 47) 22 rfl BX 3 i0 (.int .i64 0) 1 8 Try.underlying22 hi hz0 hz1 hz2 rfl (by decide) _ _ _ rfl (HT.out.own1.alloc _) ⟨wr.heap.size, 0, none⟩ 1 1 [.int .i64 2048] rfl rfl (cell_one_new _ _ _) (ints_oneCell .i64 [2048]) (by unfold maxLen; omega) (by omega) (by simp; omega) ?_; intro v1 w1 ho1 hg1 hn1 hat1; have T1 := HT.out.fst ho1 hg1 hat1; have hs1 := hg1.size; (simp at hs1); have hs1b : BX ≤ w1.heap.size := (by omega)) | (at_builtin; refine wpList_append_own_at _ rfl (.tmp 49) (.tmp 53) 22 rfl BX 3 i0 (.int .i64 0) 1 8 Try.underlying22 hi hz0 hz1 hz2 rfl (by decide) _ _ _ rfl (T1.own2.alloc _) ⟨w1.heap.size, 0, none⟩ 1 1 [.int .i64 3] rfl rfl (cell_one_new _ _ _) (ints_oneCell .i64 [3]) (by unfold maxLen; omega) (by omega) (by simp; omega) ?_; intro v2 w2 ho2 hg2 hn2 hat2; have T2 := T1.swap.fst ho2 hg2 hat2))
        go_roundw
        case rel => exact ⟨12, rfl, by omega, Lib.hid T2.swap, ((hB.alloc (by omega) _).grown hg1 (by simp; omega) (ownge1 _ HT.out.own1)).alloc (by omega) _ |>.grown hg2 (by simp; omega) (ownge1 _ T1.own2)⟩
        case measure => go_light; simp [intOf] <;> omega
      · go_wp2_with (first | (at_builtin; refine wpList_append_own_at _ rfl (.tmp 43) (.tmp 47) 22 rfl BX 3 i0 (.int .i64 0) 1 8 Try.underlying22 hi hz0 hz1 hz2 rfl (by decide) _ _ _ rfl (HT.out.own1.alloc _) ⟨wr.heap.size, 0, none⟩ 1 1 [.int .i64 4096] rfl rfl (cell_one_new _ _ _) (ints_oneCell .i64 [4096]) (by unfold maxLen; omega) (by omega) (by simp; omega) ?_; intro v1 w1 ho1 hg1 hn1 hat1; have T1 := HT.out.fst ho1 hg1 hat1; have hs1 := hg1.size; (simp at hs1); have hs1b : BX ≤ w1.heap.size := (by omega)) | (at_builtin; refine wpList_append_own_at _ rfl (.tmp 49) (.tmp 53) 22 rfl BX 3 i0 (.int .i64 0) 1 8 Try.underlying22 hi hz0 hz1 hz2 rfl (by decide) _ _ _ rfl (T1.own2.alloc _) ⟨w1.heap.size, 0, none⟩ 1 1 [.int .i64 2] rfl rfl (cell_one_new _ _ _) (ints_oneCell .i64 [2]) (by unfold maxLen; omega) (by omega) (by simp; omega) ?_; intro v2 w2 ho2 hg2 hn2 hat2; have T2 := T1.swap.fst ho2 hg2 hat2))
        go_roundw
        case rel => exact ⟨13, rfl, by omega, Lib.hid T2.swap, ((hB.alloc (by omega) _).grown hg1 (by simp; omega) (ownge1 _ HT.out.own1)).alloc (by omega) _ |>.grown hg2 (by simp; omega) (ownge1 _ T1.own2)⟩
        case measure => go_light; simp [intOf] <;> omega
      · go_wp2_with (first | (at_builtin; refine wpList_append_own_at _ rfl (.tmp 43) (.tmp 47) 22 rfl BX 3 i0 (.int .i64 0) 1 8 Try.underlying22 hi hz0 hz1 hz2 rfl (by decide) _ _ _ rfl (HT.out.own1.alloc _) ⟨wr.heap.size, 0, none⟩ 1 1 [.int .i64 8192] rfl rfl (cell_one_new _ _ _) (ints_oneCell .i64 [8192]) (by unfold maxLen; omega) (by omega) (by simp; omega) ?_; intro v1 w1 ho1 hg1 hn1 hat1; have T1 := HT.out.fst ho1 hg1 hat1; have hs1 := hg1.size; (simp at hs1); have hs1b : BX ≤ w1.heap.size := (by omega)) | (at_builtin; refine wpList_append_own_at _ rfl (.tmp 49) (.tmp 53) 22 rfl BX 3 i0 (.int .i64 0) 1 8 Try.underlying22 hi hz0 hz1 hz2 rfl (by decide) _ _ _ rfl (T1.own2.alloc _) ⟨w1.heap.size, 0, none⟩ 1 1 [.int .i64 1] rfl rfl (cell_one_new _ _ _) (ints_oneCell .i64 [1]) (by unfold maxLen; omega) (by omega) (by simp; omega) ?_; intro v2 w2 ho2 hg2 hn2 hat2; have T2 := T1.swap.fst ho2 hg2 hat2))
        go_roundw
        case rel => exact ⟨14, rfl, by omega, Lib.hid T2.swap, ((hB.alloc (by omega) _).grown hg1 (by simp; omega) (ownge1 _ HT.out.own1)).alloc (by omega) _ |>.grown hg2 (by simp; omega) (ownge1 _ T1.own2)⟩
        case measure => go_light; simp [intOf] <;> omega
    · obtain rfl : k = 14 := by omega
      obtain ⟨g1, c1, rfl, _, _, _⟩ := own_some HT.out.own1 (by decide)
      obtain ⟨g2, c2, rfl, _, _, _⟩ := own_some HT.out.own2 (by decide)
      have hrP : Row .i64 wr (some ⟨g1, 0, none⟩) (pws 14) := Row.of_own_slice HT.out.own1
      have hrW : Row .i64 wr (some ⟨g2, 0, none⟩) (wts 14) := Row.of_own_slice HT.out.own2
      have hbw : Below w.heap.size w wr := bW.trans (hB.mono (by have := HBX.out; omega))
      have hbws := hbw.size
      clear bW hB HT S0 hlt hk hszr
      have tok3 : True := trivial
      go_wp2_with (first | (go_at_call 12; (with_reducible refine (dep_x _ (pws 14) 14 _ _ (by decide) ?_ (by decide) (wts 14) 14 0 pws_dep (by decide)).mono ?_); (exact hrP.later (by repeat' (first | with_reducible exact Below.refl _ _ | with_reducible refine Below.drew ?_ | with_reducible refine below_drewN ?_ _ | with_reducible refine Below.alloc ?_ (by first | omega | (simp <;> omega)) _ | with_reducible refine Below.setCell ?_ (by first | omega | (dsimp only; omega) | (simp <;> omega)) _ | with_reducible refine Below.trans ?_ (Below.mono (by assumption) (by first | omega | (simp <;> omega)))))); rintro e w1 ⟨pD, cD, rfl, hrD, hb⟩; have hsz := hb.size; (try simp at hsz)) | (go_at_call 10; (with_reducible refine (len_x _ (pws 14) 14 _ _ (by decide) ?_ (by decide) [11, 11, 11, 11, 10, 10, 8, 7, 6, 5, 4, 3, 2, 1] 14 0 pws_len (by decide)).mono ?_); (exact hrP.later (by repeat' (first | with_reducible exact Below.refl _ _ | with_reducible refine Below.drew ?_ | with_reducible refine below_drewN ?_ _ | with_reducible refine Below.alloc ?_ (by first | omega | (simp <;> omega)) _ | with_reducible refine Below.setCell ?_ (by first | omega | (dsimp only; omega) | (simp <;> omega)) _ | with_reducible refine Below.trans ?_ (Below.mono (by assumption) (by first | omega | (simp <;> omega)))))); rintro e w1 ⟨pL, cL, rfl, hrL, hb⟩; have hsz := hb.size; (try simp at hsz)) | (go_at_call 17; (with_reducible refine (most_x _ [11, 11, 11, 11, 10, 10, 8, 7, 6, 5, 4, 3, 2, 1] 14 _ _ (by decide) ?_ (by decide) 11 0 pws_most).mono ?_); (exact (hrL.later (by repeat' (first | with_reducible exact Below.refl _ _ | with_reducible refine Below.drew ?_ | with_reducible refine below_drewN ?_ _ | with_reducible refine Below.alloc ?_ (by first | omega | (simp <;> omega)) _ | with_reducible refine Below.setCell ?_ (by first | omega | (dsimp only; omega) | (simp <;> omega)) _ | with_reducible refine Below.trans ?_ (Below.mono (by assumption) (by first | omega | (simp <;> omega))))))); rintro e w1 ⟨rfl, hb⟩; have hsz := hb.size; (try simp at hsz)) | (go_at_call 8; (with_reducible refine (awake13 _).mono ?_); rintro e w1 ⟨rfl, hb⟩; have hsz := hb.size; (try simp at hsz)) | (go_at_call 23; (with_reducible refine (o3 _ _ _ _ _ ?_ ?_).mono ?_); (exact (row_c4 (by simp <;> omega) (by simp [go_sem, *]) (by simp [go_sem, *]) (by simp [go_sem, *]) (by simp [go_sem, *]))); (exact (row_c4 (by simp <;> omega) (by simp [go_sem, *]) (by simp [go_sem, *]) (by simp [go_sem, *]) (by simp [go_sem, *]))); rintro e w1 ⟨rfl, hb⟩; have hsz := hb.size; (try simp at hsz)) | (go_at_call 23; (with_reducible refine (o4 _ _ _ _ _ ?_ ?_).mono ?_); (exact (row_c3 (by simp <;> omega) (by simp [go_sem, *]) (by simp [go_sem, *]) (by simp [go_sem, *]))); (exact (row_c3 (by simp <;> omega) (by simp [go_sem, *]) (by simp [go_sem, *]) (by simp [go_sem, *]))); rintro e w1 ⟨rfl, hb⟩; have hsz := hb.size; (try simp at hsz)) | (go_at_call 24; (with_reducible refine (r2 _ _ _ ?_).mono ?_); (exact (Row.nil _ _ _)); rintro e w1 ⟨rfl, hb⟩; have hsz := hb.size; (try simp at hsz)) | (go_at_call 24; (with_reducible refine (r3 _ _ _ ?_).mono ?_); (exact (row_c2 (by simp <;> omega) (by simp [go_sem, *]) (by simp [go_sem, *]))); rintro e w1 ⟨rfl, hb⟩; have hsz := hb.size; (try simp at hsz)) | (go_at_call 21; (with_reducible refine (k2 _ _ _ ?_).mono ?_); (exact (row_c4 (by simp <;> omega) (by simp [go_sem, *]) (by simp [go_sem, *]) (by simp [go_sem, *]) (by simp [go_sem, *]))); rintro e w1 ⟨rfl, hb⟩; have hsz := hb.size; (try simp at hsz)) | (go_at_call 21; have tk := tok3; clear tok3; (with_reducible refine (k3 _ _ _ ?_).mono ?_); (exact (row_c1 (by simp <;> omega) (by simp [go_sem, *]))); rintro e w1 ⟨rfl, hb⟩; have hsz := hb.size; (try simp at hsz)) | (go_at_call 21; (with_reducible refine (k4 _ _ _ ?_).mono ?_); (exact (row_c1 (by simp <;> omega) (by simp [go_sem, *]))); rintro e w1 ⟨rfl, hb⟩; have hsz := hb.size; (try simp at hsz)) | (go_at_call 14; (with_reducible refine (kn_same _ _ (wts 14) 14 _ _ _ ?_ ?_ (by decide) (by decide)).mono ?_); (exact (hrD.later (by repeat' (first | with_reducible exact Below.refl _ _ | with_reducible refine Below.drew ?_ | with_reducible refine below_drewN ?_ _ | with_reducible refine Below.alloc ?_ (by first | omega | (simp <;> omega)) _ | with_reducible refine Below.setCell ?_ (by first | omega | (dsimp only; omega) | (simp <;> omega)) _ | with_reducible refine Below.trans ?_ (Below.mono (by assumption) (by first | omega | (simp <;> omega))))))); (exact (hrW.later (by repeat' (first | with_reducible exact Below.refl _ _ | with_reducible refine Below.drew ?_ | with_reducible refine below_drewN ?_ _ | with_reducible refine Below.alloc ?_ (by first | omega | (simp <;> omega)) _ | with_reducible refine Below.setCell ?_ (by first | omega | (dsimp only; omega) | (simp <;> omega)) _ | with_reducible refine Below.trans ?_ (Below.mono (by assumption) (by first | omega | (simp <;> omega))))))); rintro e w1 ⟨rfl, hb⟩; have hsz := hb.size; (try simp at hsz)))
      go_light
      refine bodyPost_ret (v := .bool true) (by simp [results, Try.results5, go_sem]) rfl ⟨rfl, ?_⟩
      repeat' (first | with_reducible exact hbw | with_reducible refine Below.drew ?_ | with_reducible refine below_drewN ?_ _ | with_reducible refine Below.alloc ?_ (by first | omega | (simp <;> omega)) _ | with_reducible refine Below.setCell ?_ (by first | omega | (dsimp only; omega) | (simp <;> omega)) _ | with_reducible refine Below.trans ?_ (Below.mono (by assumption) (by first | omega | (simp <;> omega))))
end Go.Proofs.Ytmfgkimbehkdeaa
