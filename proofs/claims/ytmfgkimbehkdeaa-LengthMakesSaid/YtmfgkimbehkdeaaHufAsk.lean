/-
  What is asked of lengths, walked.
-/
import Derived.Test.YtmfgkimbehkdeaaRows
import Derived.Test.YtmfgkimbehkdeaaHufAskP
import Derived.Test.YtmfgkimbehkdeaaHufNeeds
import Derived.Test.YtmfgkimbehkdeaaGBase
import Derived.Deep.Light
import Derived.Shelf.Abstract
import Derived.Shelf.RegionOpen
import Derived.OwnWalkIn
import Derived.TacticsInMore
import Derived.LoopNIn
import Derived.LoopIn
import Derived.IntWalk
namespace Go.Proofs.Ytmfgkimbehkdeaa
open Go.RowKit
set_option linter.unusedSimpArgs false
set_option linter.unusedVariables false
attribute [local go_sem] Oper.semAt_some

set_option maxHeartbeats 2000000 in
theorem room_w (a : Option Addr) (xs : List Int) (cap : Nat) (w : World) (ha : Row .i64 w a xs) (hl : xs.length ≤ 9223372036854775807) : Calls Try.prog 15 #[.slice a xs.length cap] w fun e w' => e = .returned (.tuple #[.int .i64 (rRoom xs).1, .int .i64 (rRoom xs).2]) ∧ Below w.heap.size w w' := by
  by_cases h : 256 < xs.length
  · have j0 : (256 : Int) < (xs.length : Int) := by omega
    rw [rRoom_big h]
    go_enter Try.func15, Try.ntmps15
    go_wp2
    go_ret2
    exact ⟨rfl, Below.refl _ _⟩
  · have j0 : ¬ (256 : Int) < (xs.length : Int) := by omega
    have HBAD := Lib.hid (fun k x => rRoom_bad h (k := k) (x := x))
    have HOK := Lib.hid (rRoom_ok h)
    go_enter Try.func15, Try.ntmps15
    go_wp2
    go_loopw [4, 12] (fun vs vi wr => ∃ (k s : Nat), vi = .int .i64 (k : Int) ∧ vs = .int .i64 (s : Int) ∧ k ≤ xs.length ∧ s ≤ 1024 * k ∧ Hid (s = roomL (nn (xs.take k))) ∧ Hid (okR (xs.take k) = true) ∧ Below w.heap.size w wr) (fun _ vi _ => xs.length - (intOf vi).toNat)
    case atStart => exact ⟨0, 0, rfl, rfl, Nat.zero_le _, Nat.zero_le _, Lib.hid (by simp [roomL, nn]), Lib.hid (by simp [okR]), Below.refl _ _⟩
    case round =>
      obtain ⟨k, s, rfl, rfl, hk, hs, HS, HO, hB⟩ := hrel
      have s0 : (0 : Int) ≤ (s : Int) := by omega
      have s1 : (s : Int) ≤ 300000 := by omega
      by_cases hlt : k < xs.length
      · have i0 : (0 : Int) ≤ (k : Int) := by omega
        have i1 : (k : Int) < (xs.length : Int) := by omega
        obtain ⟨b1, o1, rfl, hb1, hc1⟩ := ha.at hlt
        obtain ⟨x, hx1⟩ : ∃ x, xs.getD k 0 = x := ⟨_, rfl⟩
        have c1 : wr.cell? ⟨b1, o1 + k, none⟩ = some (.int .i64 x) := by
          have := hc1 k hlt
          rw [hx1] at this
          exact (hB.cell (p := ⟨b1, o1 + k, none⟩) hb1).trans this
        have HX1 := Lib.hid hx1
        clear hc1 hx1
        by_cases hx : 0 ≤ x ∧ x ≤ 11
        · obtain ⟨x0, x1⟩ := hx
          have HO2 := Lib.hid (okR_snoc hlt HX1.out HO.out ⟨x0, x1⟩)
          have HS2 := Lib.hid (show roomL (nn (xs.take (k + 1))) = s + if 0 < x.toNat then 2 ^ (11 - x.toNat) else 0 by rw [nn_take_succ hlt HX1.out, roomL_snoc, HS.out])
          have hxs : x = 0 ∨ x = 1 ∨ x = 2 ∨ x = 3 ∨ x = 4 ∨ x = 5 ∨ x = 6 ∨ x = 7 ∨ x = 8 ∨ x = 9 ∨ x = 10 ∨ x = 11 := by omega
          clear x0 x1
          rcases hxs with rfl | rfl | rfl | rfl | rfl | rfl | rfl | rfl | rfl | rfl | rfl | rfl
          · go_wp2
            go_roundw
            case rel => exact ⟨k + 1, s + 0, by go_num, rfl, by omega, by omega, Lib.hid (by rw [HS2.out]; rfl), HO2, hB⟩
            case measure => go_light; simp [intOf] <;> omega
          · go_wp2
            go_roundw
            case rel => exact ⟨k + 1, s + 1024, by go_num, by go_num, by omega, by omega, Lib.hid (by rw [HS2.out]; rfl), HO2, hB⟩
            case measure => go_light; simp [intOf] <;> omega
          · go_wp2
            go_roundw
            case rel => exact ⟨k + 1, s + 512, by go_num, by go_num, by omega, by omega, Lib.hid (by rw [HS2.out]; rfl), HO2, hB⟩
            case measure => go_light; simp [intOf] <;> omega
          · go_wp2
            go_roundw
            case rel => exact ⟨k + 1, s + 256, by go_num, by go_num, by omega, by omega, Lib.hid (by rw [HS2.out]; rfl), HO2, hB⟩
            case measure => go_light; simp [intOf] <;> omega
          · go_wp2
            go_roundw
            case rel => exact ⟨k + 1, s + 128, by go_num, by go_num, by omega, by omega, Lib.hid (by rw [HS2.out]; rfl), HO2, hB⟩
            case measure => go_light; simp [intOf] <;> omega
          · go_wp2
            go_roundw
            case rel => exact ⟨k + 1, s + 64, by go_num, by go_num, by omega, by omega, Lib.hid (by rw [HS2.out]; rfl), HO2, hB⟩
            case measure => go_light; simp [intOf] <;> omega
          · go_wp2
            go_roundw
            case rel => exact ⟨k + 1, s + 32, by go_num, by go_num, by omega, by omega, Lib.hid (by rw [HS2.out]; rfl), HO2, hB⟩
            case measure => go_light; simp [intOf] <;> omega
          · go_wp2
            go_roundw
            case rel => exact ⟨k + 1, s + 16, by go_num, by go_num, by omega, by omega, Lib.hid (by rw [HS2.out]; rfl), HO2, hB⟩
            case measure => go_light; simp [intOf] <;> omega
          · go_wp2
            go_roundw
            case rel => exact ⟨k + 1, s + 8, by go_num, by go_num, by omega, by omega, Lib.hid (by rw [HS2.out]; rfl), HO2, hB⟩
            case measure => go_light; simp [intOf] <;> omega
          · go_wp2
            go_roundw
            case rel => exact ⟨k + 1, s + 4, by go_num, by go_num, by omega, by omega, Lib.hid (by rw [HS2.out]; rfl), HO2, hB⟩
            case measure => go_light; simp [intOf] <;> omega
          · go_wp2
            go_roundw
            case rel => exact ⟨k + 1, s + 2, by go_num, by go_num, by omega, by omega, Lib.hid (by rw [HS2.out]; rfl), HO2, hB⟩
            case measure => go_light; simp [intOf] <;> omega
          · go_wp2
            go_roundw
            case rel => exact ⟨k + 1, s + 1, by go_num, by go_num, by omega, by omega, Lib.hid (by rw [HS2.out]; rfl), HO2, hB⟩
            case measure => go_light; simp [intOf] <;> omega
        · have HE := Lib.hid (HBAD.out k x hlt HX1.out hx)
          have hx' : x < 0 ∨ (¬ x < 0 ∧ 11 < x) := by omega
          clear hx
          rcases hx' with x0 | ⟨x0, x1⟩
          all_goals
            go_wp2
            go_ret2
            exact ⟨by rw [HE.out]; rfl, hB⟩
      · have e : k = xs.length := by omega
        have HE : Hid (rRoom xs = ((s : Int), 0)) := Lib.hid (by
          have h1 := HS.out
          have h2 := HO.out
          rw [e, List.take_length] at h1 h2
          rw [HOK.out h2, h1])
        clear e
        go_wp2
        go_ret2
        exact ⟨by rw [HE.out]; rfl, hB⟩

set_option maxHeartbeats 2000000 in
theorem rroom_w (a : Option Addr) (xs : List Int) (cap : Nat) (w : World) (ha : Row .i64 w a xs) (hl : xs.length ≤ 9223372036854775807) : Calls Try.prog 16 #[.slice a xs.length cap] w fun e w' => e = .returned (.tuple #[.int .i64 (rRoom xs).1, .int .i64 (rRoom xs).2]) ∧ Below w.heap.size w w' := by
  by_cases h : 256 < xs.length
  · have j0 : (256 : Int) < (xs.length : Int) := by omega
    rw [rRoom_big h]
    go_enter Try.func16, Try.ntmps16
    go_wp2
    go_ret2
    exact ⟨rfl, Below.refl _ _⟩
  · have j0 : ¬ (256 : Int) < (xs.length : Int) := by omega
    have HBAD := Lib.hid (fun k x => rRoom_bad h (k := k) (x := x))
    have HOK := Lib.hid (rRoom_ok h)
    go_enter Try.func16, Try.ntmps16
    go_wp2
    go_loopw [4, 5] (fun vs vi wr => ∃ (k s : Nat), vi = .int .i64 (k : Int) ∧ vs = .int .i64 (s : Int) ∧ k ≤ xs.length ∧ s ≤ 1024 * k ∧ Hid (s = roomL (nn (xs.take k))) ∧ Hid (okR (xs.take k) = true) ∧ Below w.heap.size w wr) (fun _ vi _ => xs.length - (intOf vi).toNat)
    case atStart => exact ⟨0, 0, rfl, rfl, Nat.zero_le _, Nat.zero_le _, Lib.hid (by simp [roomL, nn]), Lib.hid (by simp [okR]), Below.refl _ _⟩
    case round =>
      obtain ⟨k, s, rfl, rfl, hk, hs, HS, HO, hB⟩ := hrel
      have s0 : (0 : Int) ≤ (s : Int) := by omega
      have s1 : (s : Int) ≤ 300000 := by omega
      by_cases hlt : k < xs.length
      · have i0 : (0 : Int) ≤ (k : Int) := by omega
        have i1 : (k : Int) < (xs.length : Int) := by omega
        obtain ⟨b1, o1, rfl, hb1, hc1⟩ := ha.at hlt
        obtain ⟨x, hx1⟩ : ∃ x, xs.getD k 0 = x := ⟨_, rfl⟩
        have c1 : wr.cell? ⟨b1, o1 + k, none⟩ = some (.int .i64 x) := by
          have := hc1 k hlt
          rw [hx1] at this
          exact (hB.cell (p := ⟨b1, o1 + k, none⟩) hb1).trans this
        have HX1 := Lib.hid hx1
        clear hc1 hx1
        by_cases hx : 0 ≤ x ∧ x ≤ 11
        · obtain ⟨x0, x1⟩ := hx
          have HO2 := Lib.hid (okR_snoc hlt HX1.out HO.out ⟨x0, x1⟩)
          have HS2 := Lib.hid (show roomL (nn (xs.take (k + 1))) = s + if 0 < x.toNat then 2 ^ (11 - x.toNat) else 0 by rw [nn_take_succ hlt HX1.out, roomL_snoc, HS.out])
          have hxs : x = 0 ∨ x = 1 ∨ x = 2 ∨ x = 3 ∨ x = 4 ∨ x = 5 ∨ x = 6 ∨ x = 7 ∨ x = 8 ∨ x = 9 ∨ x = 10 ∨ x = 11 := by omega
          clear x0 x1
          rcases hxs with rfl | rfl | rfl | rfl | rfl | rfl | rfl | rfl | rfl | rfl | rfl | rfl
          · go_wp2
            go_roundw
            case rel => exact ⟨k + 1, s + 0, by go_num, rfl, by omega, by omega, Lib.hid (by rw [HS2.out]; rfl), HO2, hB⟩
            case measure => go_light; simp [intOf] <;> omega
          · go_wp2
            go_roundw
            case rel => exact ⟨k + 1, s + 1024, by go_num, by go_num, by omega, by omega, Lib.hid (by rw [HS2.out]; rfl), HO2, hB⟩
            case measure => go_light; simp [intOf] <;> omega
          · go_wp2
            go_roundw
            case rel => exact ⟨k + 1, s + 512, by go_num, by go_num, by omega, by omega, Lib.hid (by rw [HS2.out]; rfl), HO2, hB⟩
            case measure => go_light; simp [intOf] <;> omega
          · go_wp2
            go_roundw
            case rel => exact ⟨k + 1, s + 256, by go_num, by go_num, by omega, by omega, Lib.hid (by rw [HS2.out]; rfl), HO2, hB⟩
            case measure => go_light; simp [intOf] <;> omega
          · go_wp2
            go_roundw
            case rel => exact ⟨k + 1, s + 128, by go_num, by go_num, by omega, by omega, Lib.hid (by rw [HS2.out]; rfl), HO2, hB⟩
            case measure => go_light; simp [intOf] <;> omega
          · go_wp2
            go_roundw
            case rel => exact ⟨k + 1, s + 64, by go_num, by go_num, by omega, by omega, Lib.hid (by rw [HS2.out]; rfl), HO2, hB⟩
            case measure => go_light; simp [intOf] <;> omega
          · go_wp2
            go_roundw
            case rel => exact ⟨k + 1, s + 32, by go_num, by go_num, by omega, by omega, Lib.hid (by rw [HS2.out]; rfl), HO2, hB⟩
            case measure => go_light; simp [intOf] <;> omega
          · go_wp2
            go_roundw
            case rel => exact ⟨k + 1, s + 16, by go_num, by go_num, by omega, by omega, Lib.hid (by rw [HS2.out]; rfl), HO2, hB⟩
            case measure => go_light; simp [intOf] <;> omega
          · go_wp2
            go_roundw
            case rel => exact ⟨k + 1, s + 8, by go_num, by go_num, by omega, by omega, Lib.hid (by rw [HS2.out]; rfl), HO2, hB⟩
            case measure => go_light; simp [intOf] <;> omega
          · go_wp2
            go_roundw
            case rel => exact ⟨k + 1, s + 4, by go_num, by go_num, by omega, by omega, Lib.hid (by rw [HS2.out]; rfl), HO2, hB⟩
            case measure => go_light; simp [intOf] <;> omega
          · go_wp2
            go_roundw
            case rel => exact ⟨k + 1, s + 2, by go_num, by go_num, by omega, by omega, Lib.hid (by rw [HS2.out]; rfl), HO2, hB⟩
            case measure => go_light; simp [intOf] <;> omega
          · go_wp2
            go_roundw
            case rel => exact ⟨k + 1, s + 1, by go_num, by go_num, by omega, by omega, Lib.hid (by rw [HS2.out]; rfl), HO2, hB⟩
            case measure => go_light; simp [intOf] <;> omega
        · have HE := Lib.hid (HBAD.out k x hlt HX1.out hx)
          have hx' : x < 0 ∨ (¬ x < 0 ∧ 11 < x) := by omega
          clear hx
          rcases hx' with x0 | ⟨x0, x1⟩
          all_goals
            go_wp2
            go_ret2
            exact ⟨by rw [HE.out]; rfl, hB⟩
      · have e : k = xs.length := by omega
        have HE : Hid (rRoom xs = ((s : Int), 0)) := Lib.hid (by
          have h1 := HS.out
          have h2 := HO.out
          rw [e, List.take_length] at h1 h2
          rw [HOK.out h2, h1])
        clear e
        go_wp2
        go_ret2
        exact ⟨by rw [HE.out]; rfl, hB⟩

set_option maxHeartbeats 2000000 in
theorem coded_w (a : Option Addr) (xs : List Int) (cap : Nat) (w : World) (ha : Row .i64 w a xs) (hl : xs.length ≤ 9223372036854775807) : Calls Try.prog 32 #[.slice a xs.length cap] w fun e w' => e = .returned (.tuple #[.int .i64 (posN xs : Nat), .int .i64 (mst xs)]) ∧ Below w.heap.size w w' := by
  go_enter Try.func32, Try.ntmps32
  go_wp2
  go_loopw [2, 3, 8] (fun vn vm vi wr => ∃ (k n : Nat) (m : Int), vi = .int .i64 (k : Int) ∧ vn = .int .i64 (n : Int) ∧ vm = .int .i64 m ∧ k ≤ xs.length ∧ n ≤ k ∧ 0 ≤ m ∧ Hid (n = posN (xs.take k)) ∧ Hid (m = mst (xs.take k)) ∧ Below w.heap.size w wr) (fun _ _ vi _ => xs.length - (intOf vi).toNat)
  case atStart => exact ⟨0, 0, 0, rfl, rfl, rfl, Nat.zero_le _, Nat.zero_le _, Int.le_refl _, Lib.hid (by simp [posN]), Lib.hid (by simp [mst]), Below.refl _ _⟩
  case round =>
    obtain ⟨k, n, m, rfl, rfl, rfl, hk, hn, hm, HN, HM, hB⟩ := hrel
    by_cases hlt : k < xs.length
    · have i0 : (0 : Int) ≤ (k : Int) := by omega
      have i1 : (k : Int) < (xs.length : Int) := by omega
      have n0 : (0 : Int) ≤ (n : Int) := by omega
      have n1 : (n : Int) < (xs.length : Int) := by omega
      obtain ⟨b1, o1, rfl, hb1, hc1⟩ := ha.at hlt
      obtain ⟨x, hx1⟩ : ∃ x, xs.getD k 0 = x := ⟨_, rfl⟩
      have c1 : wr.cell? ⟨b1, o1 + k, none⟩ = some (.int .i64 x) := by
        have := hc1 k hlt
        rw [hx1] at this
        exact (hB.cell (p := ⟨b1, o1 + k, none⟩) hb1).trans this
      have HX1 := Lib.hid hx1
      clear hc1 hx1
      have HN2 := Lib.hid (show posN (xs.take (k + 1)) = n + if 0 < x then 1 else 0 by rw [take_snoc_d hlt HX1.out, posN_snoc, HN.out])
      have HM2 := Lib.hid (show mst (xs.take (k + 1)) = max m x by rw [take_snoc_d hlt HX1.out, mst_snoc, HM.out])
      by_cases h0 : 0 < x
      · by_cases hmx : m < x
        · go_wp2
          all_goals
            go_roundw
            case rel => exact ⟨k + 1, n + 1, x, by go_num, by go_num, rfl, by omega, by omega, by omega, Lib.hid (by rw [HN2.out, if_pos h0]), Lib.hid (by rw [HM2.out]; omega), hB⟩
            case measure => go_light; simp [intOf] <;> omega
        · go_wp2
          all_goals
            go_roundw
            case rel => exact ⟨k + 1, n + 1, m, by go_num, by go_num, by first | rfl | (have e : m = x := by omega
                                                                                        rw [e]), by omega, by omega, by omega, Lib.hid (by rw [HN2.out, if_pos h0]), Lib.hid (by rw [HM2.out]; omega), hB⟩
            case measure => go_light; simp [intOf] <;> omega
      · go_wp2
        go_roundw
        case rel => exact ⟨k + 1, n, m, by go_num, rfl, rfl, by omega, by omega, by omega, Lib.hid (by rw [HN2.out, if_neg h0]; rfl), Lib.hid (by rw [HM2.out]; omega), hB⟩
        case measure => go_light; simp [intOf] <;> omega
    · have e : k = xs.length := by omega
      have HE : Hid (posN xs = n ∧ mst xs = m) := Lib.hid (by
        have h1 := HN.out
        have h2 := HM.out
        rw [e, List.take_length] at h1 h2
        exact ⟨h1.symm, h2.symm⟩)
      clear e
      go_wp2
      go_ret2
      exact ⟨by rw [HE.out.1, HE.out.2]; rfl, hB⟩

set_option maxHeartbeats 2000000 in
theorem many_w (a : Option Addr) (xs : List Int) (cap : Nat) (w : World) (ha : Row .i64 w a xs) (hl : xs.length ≤ 9223372036854775807) : Calls Try.prog 37 #[.slice a xs.length cap] w fun e w' => e = .returned (.int .i64 (nonN xs : Nat)) ∧ Below w.heap.size w w' := by
  go_enter Try.func37, Try.ntmps37
  go_wp2
  go_loopw [3, 4] (fun vn vi wr => ∃ (k n : Nat), vi = .int .i64 (k : Int) ∧ vn = .int .i64 (n : Int) ∧ k ≤ xs.length ∧ n ≤ k ∧ Hid (n = nonN (xs.take k)) ∧ Below w.heap.size w wr) (fun _ vi _ => xs.length - (intOf vi).toNat)
  case atStart => exact ⟨0, 0, rfl, rfl, Nat.zero_le _, Nat.zero_le _, Lib.hid (by simp [nonN]), Below.refl _ _⟩
  case round =>
    obtain ⟨k, n, rfl, rfl, hk, hn, HN, hB⟩ := hrel
    by_cases hlt : k < xs.length
    · have i0 : (0 : Int) ≤ (k : Int) := by omega
      have i1 : (k : Int) < (xs.length : Int) := by omega
      have n0 : (0 : Int) ≤ (n : Int) := by omega
      have n1 : (n : Int) < (xs.length : Int) := by omega
      obtain ⟨b1, o1, rfl, hb1, hc1⟩ := ha.at hlt
      obtain ⟨x, hx1⟩ : ∃ x, xs.getD k 0 = x := ⟨_, rfl⟩
      have c1 : wr.cell? ⟨b1, o1 + k, none⟩ = some (.int .i64 x) := by
        have := hc1 k hlt
        rw [hx1] at this
        exact (hB.cell (p := ⟨b1, o1 + k, none⟩) hb1).trans this
      have HX1 := Lib.hid hx1
      clear hc1 hx1
      have HN2 := Lib.hid (show nonN (xs.take (k + 1)) = n + if x ≠ 0 then 1 else 0 by rw [take_snoc_d hlt HX1.out, nonN_snoc, HN.out])
      by_cases h0 : x = 0
      · have j0 : (x != 0) = false := by simp [h0]
        have HN3 := Lib.hid (show nonN (xs.take (k + 1)) = n by rw [HN2.out, if_neg (by simp [h0])]; rfl)
        clear h0
        go_wp2
        go_roundw
        case rel => exact ⟨k + 1, n, by go_num, rfl, by omega, by omega, Lib.hid (by rw [HN3.out]), hB⟩
        case measure => go_light; simp [intOf] <;> omega
      · have j0 : (x != 0) = true := by simp [h0]
        have HN3 := Lib.hid (show nonN (xs.take (k + 1)) = n + 1 by rw [HN2.out, if_pos h0])
        clear h0
        go_wp2
        go_roundw
        case rel => exact ⟨k + 1, n + 1, by go_num, by go_num, by omega, by omega, Lib.hid (by rw [HN3.out]), hB⟩
        case measure => go_light; simp [intOf] <;> omega
    · have e : k = xs.length := by omega
      have HE : Hid (nonN xs = n) := Lib.hid (by
        have h1 := HN.out
        rw [e, List.take_length] at h1
        exact h1.symm)
      clear e
      go_wp2
      go_ret
      exact ⟨by rw [HE.out]; rfl, hB⟩

set_option maxHeartbeats 1000000 in
theorem check_w (a : Option Addr) (xs : List Int) (cap : Nat) (w : World) (ha : Row .i64 w a xs) (hl : xs.length ≤ 9223372036854775807) : Calls Try.prog 21 #[.slice a xs.length cap] w fun e w' => e = .returned (.int .i64 (rChk2 xs)) ∧ Below w.heap.size w w' := by
  have qr := fun W (hW : Row .i64 W a xs) => room_w a xs cap W hW hl
  have qm := fun W (hW : Row .i64 W a xs) => coded_w a xs cap W hW hl
  by_cases h0 : (rRoom xs).2 = 0
  · skip
    by_cases h1 : posN xs < 2
    · have E1 := Lib.hid (show rChk2 xs = 7 by unfold rChk2; rw [if_neg (by simp [h0]), if_pos h1])
      rw [h0] at qr
      clear h0
      generalize posN xs = n at h1 qm
      generalize (rRoom xs).1 = r at qr
      have j1 : (n : Int) < 2 := by omega
      go_enter Try.func21, Try.ntmps21
      go_wp2_with (first | (go_at_call 15; refine (qr _ ha).mono ?_; rintro e w1 ⟨rfl, hb1⟩; replace ha := ha.later hb1) | (go_at_call 32; refine (qm _ (by first | assumption | exact ha)).mono ?_; rintro e w2 ⟨rfl, hb2⟩))
      go_light
      refine bodyPost_ret (v := .int .i64 7) (by simp [results, Try.results21, go_sem, *]) rfl ⟨by rw [E1.out], ?_⟩
      first | exact hb1.trans (hb2.mono hb1.size) | exact hb1
    · by_cases h2 : (rRoom xs).1 = 2048
      · have E1 := Lib.hid (show rChk2 xs = 0 by unfold rChk2; rw [if_neg (by simp [h0]), if_neg h1, if_neg (by simp [h2])])
        rw [h0, h2] at qr
        clear h0 h2
        generalize posN xs = n at h1 qm
        have j1 : ¬ (n : Int) < 2 := by omega
        go_enter Try.func21, Try.ntmps21
        go_wp2_with (first | (go_at_call 15; refine (qr _ ha).mono ?_; rintro e w1 ⟨rfl, hb1⟩; replace ha := ha.later hb1) | (go_at_call 32; refine (qm _ (by first | assumption | exact ha)).mono ?_; rintro e w2 ⟨rfl, hb2⟩))
        go_light
        refine bodyPost_ret (v := .int .i64 0) (by simp [results, Try.results21, go_sem, *]) rfl ⟨by rw [E1.out], ?_⟩
        first | exact hb1.trans (hb2.mono hb1.size) | exact hb1
      · have E1 := Lib.hid (show rChk2 xs = 21 by unfold rChk2; rw [if_neg (by simp [h0]), if_neg h1, if_pos h2])
        rw [h0] at qr
        clear h0
        generalize posN xs = n at h1 qm
        generalize (rRoom xs).1 = r at h2 qr
        have j1 : ¬ (n : Int) < 2 := by omega
        have j2 : (r != 2048) = true := by simpa using h2
        go_enter Try.func21, Try.ntmps21
        go_wp2_with (first | (go_at_call 15; refine (qr _ ha).mono ?_; rintro e w1 ⟨rfl, hb1⟩; replace ha := ha.later hb1) | (go_at_call 32; refine (qm _ (by first | assumption | exact ha)).mono ?_; rintro e w2 ⟨rfl, hb2⟩))
        go_light
        refine bodyPost_ret (v := .int .i64 21) (by simp [results, Try.results21, go_sem, *]) rfl ⟨by rw [E1.out], ?_⟩
        first | exact hb1.trans (hb2.mono hb1.size) | exact hb1
  · have E1 := Lib.hid (show rChk2 xs = (rRoom xs).2 by unfold rChk2; rw [if_pos h0])
    generalize (rRoom xs).2 = c at h0 qr E1
    generalize (rRoom xs).1 = r at qr
    have j0 : (c != 0) = true := by simpa using h0
    go_enter Try.func21, Try.ntmps21
    go_wp2_with (first | (go_at_call 15; refine (qr _ ha).mono ?_; rintro e w1 ⟨rfl, hb1⟩; replace ha := ha.later hb1) | (go_at_call 32; refine (qm _ (by first | assumption | exact ha)).mono ?_; rintro e w2 ⟨rfl, hb2⟩))
    go_light
    refine bodyPost_ret (v := .int .i64 c) (by simp [results, Try.results21, go_sem, *]) rfl ⟨by rw [E1.out], ?_⟩
    first | exact hb1.trans (hb2.mono hb1.size) | exact hb1

set_option maxHeartbeats 1000000 in
theorem rcheck_w (a : Option Addr) (xs : List Int) (cap : Nat) (w : World) (ha : Row .i64 w a xs) (hl : xs.length ≤ 9223372036854775807) : Calls Try.prog 22 #[.slice a xs.length cap] w fun e w' => e = .returned (.int .i64 (rChk2 xs)) ∧ Below w.heap.size w w' := by
  have qr := fun W (hW : Row .i64 W a xs) => rroom_w a xs cap W hW hl
  have qm := fun W (hW : Row .i64 W a xs) => many_w a xs cap W hW hl
  by_cases h0 : (rRoom xs).2 = 0
  · obtain ⟨_, hok, _⟩ := rRoom_zero h0
    rw [nonN_pos hok] at qm
    clear hok
    by_cases h1 : posN xs < 2
    · have E1 := Lib.hid (show rChk2 xs = 7 by unfold rChk2; rw [if_neg (by simp [h0]), if_pos h1])
      rw [h0] at qr
      clear h0
      generalize posN xs = n at h1 qm
      generalize (rRoom xs).1 = r at qr
      have j1 : (n : Int) < 2 := by omega
      go_enter Try.func22, Try.ntmps22
      go_wp2_with (first | (go_at_call 16; refine (qr _ ha).mono ?_; rintro e w1 ⟨rfl, hb1⟩; replace ha := ha.later hb1) | (go_at_call 37; refine (qm _ (by first | assumption | exact ha)).mono ?_; rintro e w2 ⟨rfl, hb2⟩))
      go_light
      refine bodyPost_ret (v := .int .i64 7) (by simp [results, Try.results22, go_sem, *]) rfl ⟨by rw [E1.out], ?_⟩
      first | exact hb1.trans (hb2.mono hb1.size) | exact hb1
    · by_cases h2 : (rRoom xs).1 = 2048
      · have E1 := Lib.hid (show rChk2 xs = 0 by unfold rChk2; rw [if_neg (by simp [h0]), if_neg h1, if_neg (by simp [h2])])
        rw [h0, h2] at qr
        clear h0 h2
        generalize posN xs = n at h1 qm
        have j1 : ¬ (n : Int) < 2 := by omega
        go_enter Try.func22, Try.ntmps22
        go_wp2_with (first | (go_at_call 16; refine (qr _ ha).mono ?_; rintro e w1 ⟨rfl, hb1⟩; replace ha := ha.later hb1) | (go_at_call 37; refine (qm _ (by first | assumption | exact ha)).mono ?_; rintro e w2 ⟨rfl, hb2⟩))
        go_light
        refine bodyPost_ret (v := .int .i64 0) (by simp [results, Try.results22, go_sem, *]) rfl ⟨by rw [E1.out], ?_⟩
        first | exact hb1.trans (hb2.mono hb1.size) | exact hb1
      · have E1 := Lib.hid (show rChk2 xs = 21 by unfold rChk2; rw [if_neg (by simp [h0]), if_neg h1, if_pos h2])
        rw [h0] at qr
        clear h0
        generalize posN xs = n at h1 qm
        generalize (rRoom xs).1 = r at h2 qr
        have j1 : ¬ (n : Int) < 2 := by omega
        have j2 : (r != 2048) = true := by simpa using h2
        go_enter Try.func22, Try.ntmps22
        go_wp2_with (first | (go_at_call 16; refine (qr _ ha).mono ?_; rintro e w1 ⟨rfl, hb1⟩; replace ha := ha.later hb1) | (go_at_call 37; refine (qm _ (by first | assumption | exact ha)).mono ?_; rintro e w2 ⟨rfl, hb2⟩))
        go_light
        refine bodyPost_ret (v := .int .i64 21) (by simp [results, Try.results22, go_sem, *]) rfl ⟨by rw [E1.out], ?_⟩
        first | exact hb1.trans (hb2.mono hb1.size) | exact hb1
  · have E1 := Lib.hid (show rChk2 xs = (rRoom xs).2 by unfold rChk2; rw [if_pos h0])
    generalize (rRoom xs).2 = c at h0 qr E1
    generalize (rRoom xs).1 = r at qr
    have j0 : (c != 0) = true := by simpa using h0
    go_enter Try.func22, Try.ntmps22
    go_wp2_with (first | (go_at_call 16; refine (qr _ ha).mono ?_; rintro e w1 ⟨rfl, hb1⟩; replace ha := ha.later hb1) | (go_at_call 37; refine (qm _ (by first | assumption | exact ha)).mono ?_; rintro e w2 ⟨rfl, hb2⟩))
    go_light
    refine bodyPost_ret (v := .int .i64 c) (by simp [results, Try.results22, go_sem, *]) rfl ⟨by rw [E1.out], ?_⟩
    first | exact hb1.trans (hb2.mono hb1.size) | exact hb1
end Go.Proofs.Ytmfgkimbehkdeaa
