/-
  Counts made of numbers, walked.
-/
import Derived.Test.YtmfgkimbehkdeaaRows
import Derived.Test.YtmfgkimbehkdeaaHufLaw
import Derived.Test.YtmfgkimbehkdeaaHufNeeds
import Derived.Test.YtmfgkimbehkdeaaGBase
import Derived.Deep.Light
import Derived.Shelf.Abstract
import Derived.Shelf.RegionOpen
import Derived.OwnWalkIn
import Derived.TacticsInMore
import Derived.LoopNIn
import Derived.LoopIn
import Derived.IntWalk
import Derived.Outline
import Derived.Maps.AppendAt
namespace Go.Proofs.Ytmfgkimbehkdeaa
open Go.RowKit
set_option linter.unusedSimpArgs false
set_option linter.unusedVariables false
attribute [local go_sem] Oper.semAt_some

/-- A number made of a number. -/
def mkN (x : Int) : Nat := (x % 1048576).toNat / 2 ^ (4 + (x % 1048576).toNat % 16)
def mkL (xs : List Int) : List Nat := xs.map mkN
/-- The counts made of numbers. -/
def mdN (xs : List Int) : List Nat := mkL (xs.take 20) ++ [1, 2]
theorem mkN_le (x : Int) : mkN x ≤ 65536 := by
  unfold mkN
  have h : (x % 1048576).toNat ≤ 1048576 := by omega
  have h2 : 2 ^ 4 ≤ 2 ^ (4 + (x % 1048576).toNat % 16) := Nat.pow_le_pow_right (by omega) (by omega)
  have h3 : (x % 1048576).toNat / 2 ^ (4 + (x % 1048576).toNat % 16) ≤ (x % 1048576).toNat / 2 ^ 4 := Nat.div_le_div_left h2 (by decide)
  refine Nat.le_trans h3 ?_
  omega
theorem mkL_snoc {xs : List Int} {k : Nat} {x : Int} (h : k < xs.length) (hx : xs.getD k 0 = x) : mkL (xs.take (k + 1)) = mkL (xs.take k) ++ [mkN x] := by
  rw [take_snoc_d h hx]
  simp [mkL]
set_option maxRecDepth 100000 in
set_option maxHeartbeats 2000000 in
theorem made_w (a : Option Addr) (xs : List Int) (cap : Nat) (w : World) (ha : Row .i64 w a xs) (hl : xs.length ≤ 9223372036854775807) : Calls Try.prog 25 #[.slice a xs.length cap] w (CopyPost (ints (mdN xs)) w) := by
  obtain ⟨inf, hi, hz0, hz1, hz2⟩ := info_parts infoInt
  go_enter Try.func25, Try.ntmps25
  go_wp2
  go_loopw [3, 4] (fun vl vi wr => ∃ k : Nat, vi = .int .i64 (k : Int) ∧ k ≤ xs.length ∧ k ≤ 20 ∧ Hid (wr.ownsRow w.heap.size 3 1 vl k ((ints (mkL (xs.take k))).map (Value.int .i64))) ∧ Below w.heap.size w wr) (fun _ vi _ => 20 - (intOf vi).toNat)
  case atStart => exact ⟨0, rfl, Nat.zero_le _, by omega, Lib.hid ⟨rfl, .inl ⟨rfl, rfl⟩⟩, Below.refl _ _⟩
  case round =>
    obtain ⟨k, rfl, hk, hk2, HO, hB⟩ := hrel
    have hsz := hB.size
    by_cases hlt : k < xs.length ∧ k < 20
    · obtain ⟨hlt, hlt2⟩ := hlt
      have i0 : (0 : Int) ≤ (k : Int) := by omega
      have i1 : (k : Int) < (xs.length : Int) := by omega
      have i2 : (k : Int) < 20 := by omega
      obtain ⟨b1, o1, rfl, hb1, hc1⟩ := ha.at hlt
      obtain ⟨x, hx1⟩ : ∃ x, xs.getD k 0 = x := ⟨_, rfl⟩
      have c1 : wr.cell? ⟨b1, o1 + k, none⟩ = some (.int .i64 x) := by
        have := hc1 k hlt
        rw [hx1] at this
        exact (hB.cell (p := ⟨b1, o1 + k, none⟩) hb1).trans this
      have HX1 := Lib.hid hx1
      clear hc1 hx1
      have HS := Lib.hid (mkL_snoc hlt HX1.out)
      obtain ⟨m, hm⟩ : ∃ m : Nat, x % 1048576 = (m : Int) := ⟨(x % 1048576).toNat, by omega⟩
      have q := fun w => modK x 1048576 (by omega) (by omega) w
      rw [hm] at q
      have HN : Hid (((mkN x : Nat) : Int) = (m : Int) / 2 ^ (4 + m % 16)) := Lib.hid (by unfold mkN; rw [hm, Int.toNat_natCast]; simp)
      have m0 : (0 : Int) ≤ (m : Int) := by omega
      have m1 : (m : Int) < 1048576 := by omega
      clear hm
      go_wp2_with (first | (go_at_call 26; refine (q _).mono ?_; rintro e w1 ⟨rfl, hb1⟩; have hO1 := ownsRow_later HO.out hb1; have hs1 := hb1.size) | (at_builtin; refine wpList_append_own _ rfl _ _ 22 rfl w.heap.size 3 inf (.int .i64 0) 1 8 Try.underlying22 hi hz0 hz1 hz2 rfl (by decide) _ _ _ rfl (hO1.alloc _) ⟨w1.heap.size, 0, none⟩ 1 1 [.int .i64 ((m : Int) / 2 ^ (4 + m % 16))] rfl rfl (cell_one_new _ _ _) (ints_oneCell .i64 [(m : Int) / 2 ^ (4 + m % 16)]) (by unfold maxLen; omega) (by omega) (by simp; omega) ?_; intro v2 w2 ho2 hg2 hn2))
      go_roundw
      case rel =>
        refine ⟨k + 1, by go_num, by omega, by omega, Lib.hid ?_, ((hB.trans (hb1.mono hsz)).alloc (by omega) _).grown hg2 (by simp; omega) (own_base_o hO1)⟩
        rw [HS.out]
        have e : (ints (mkL (xs.take k) ++ [mkN x])).map (Value.int .i64) = (ints (mkL (xs.take k))).map (Value.int .i64) ++ [.int .i64 ((m : Int) / 2 ^ (4 + m % 16))] := by
          rw [← HN.out]
          simp [ints]
        rw [e]
        exact ho2
      case measure => simp [intOf]; omega
    · have hst : mkL (xs.take k) = mkL (xs.take 20) ∧ k = (mkL (xs.take 20)).length := by
        have : (mkL (xs.take 20)).length = min 20 xs.length := by simp [mkL]
        by_cases h20 : k = 20
        · subst h20
          exact ⟨rfl, by omega⟩
        · rw [List.take_of_length_le (by omega), List.take_of_length_le (i := 20) (by omega)]
          refine ⟨rfl, ?_⟩
          simp [mkL]
          omega
      have HST := Lib.hid hst
      clear hst
      have hlt' : ¬ k < xs.length ∨ (k < xs.length ∧ ¬ k < 20) := by omega
      clear hlt
      rcases hlt' with j0 | ⟨j0, j1⟩
      all_goals
        first | (have j2 : ¬ (k : Int) < 20 := by omega) | skip
        have j3 : (0 : Int) ≤ (k : Int) := by omega
        go_wp2_with ((at_builtin; refine wpList_append_own _ rfl _ _ 22 rfl w.heap.size 3 inf (.int .i64 0) 1 8 Try.underlying22 hi hz0 hz1 hz2 rfl (by decide) _ _ _ rfl (HO.out.alloc _) ⟨wr.heap.size, 0, none⟩ 2 2 [.int .i64 1, .int .i64 2] rfl rfl (World.news_of_block (cs := #[.int .i64 1, .int .i64 2]) (t := 3) (fr := (0, 0)) (heap_alloc_new wr _)) (ints_oneCell .i64 [1, 2]) (by unfold maxLen; omega) (by omega) (by simp; omega) ?_; intro v2 w2 ho2 hg2 hn2))
        have e : (ints (mkL (xs.take k))).map (Value.int .i64) ++ [.int .i64 1, .int .i64 2] = (ints (mdN xs)).map (Value.int .i64) := by
          rw [HST.out.1]
          simp [ints, mdN]
        rw [e] at ho2
        obtain ⟨pa, ca, rfl, hn3, hrow⟩ := Row.of_own ho2
        have B2 : Below w.heap.size w w2 := (hB.alloc (by omega) _).grown hg2 (by simp; omega) (own_base_o HO.out)
        go_ret
        exact ⟨_, _, rfl, hrow, B2⟩
end Go.Proofs.Ytmfgkimbehkdeaa
