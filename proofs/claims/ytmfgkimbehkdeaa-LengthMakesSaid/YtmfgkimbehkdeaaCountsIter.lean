/-
  The iterator over the counts that occur, walked.
-/
import Derived.Test.YtmfgkimbehkdeaaRows
import Derived.Test.YtmfgkimbehkdeaaGBase
import Derived.Deep.Light
import Derived.Shelf.Abstract
import Derived.Shelf.RegionOpen
import Derived.OwnWalkIn
import Derived.TacticsInMore
import Derived.LoopNIn
import Derived.LoopIn
namespace Go.Proofs.Ytmfgkimbehkdeaa
open Go.RowKit
set_option linter.unusedSimpArgs false
set_option linter.unusedVariables false
open Go.Shelf
attribute [local go_sem] Oper.semAt_some
/-- The places that occur, with their counts, from place s on. -/
def occ : Nat → List Int → List (Nat × Int)
  | _, [] => []
  | s, n :: r => if 0 < n then (s, n) :: occ (s + 1) r else occ (s + 1) r
def occTo (xs : List Int) (k : Nat) : Nat := ((xs.take k).filter (fun n => decide (0 < n))).length
def occArgs (xs : List Int) (i : Nat) : Array Value := #[.int .i64 ((occ 0 xs).getD i (0, 0)).1, .int .i64 ((occ 0 xs).getD i (0, 0)).2]
theorem occ_len (s : Nat) (xs : List Int) : (occ s xs).length = (xs.filter (fun n => decide (0 < n))).length := by
  induction xs generalizing s with
  | nil => rfl
  | cons n r ih => by_cases h : 0 < n <;> simp [occ, h, ih]
theorem occTo_all (xs : List Int) : occTo xs xs.length = (occ 0 xs).length := by rw [occ_len]; simp [occTo]
theorem occTo_succ (xs : List Int) (k : Nat) (h : k < xs.length) : occTo xs (k + 1) = occTo xs k + (if 0 < xs.getD k 0 then 1 else 0) := by
  unfold occTo
  rw [List.take_succ_eq_append_getElem h, List.filter_append, List.length_append]
  by_cases hp : 0 < xs[k]
  · rw [if_pos (by simpa [h] using hp)]; simp [List.filter, hp]
  · rw [if_neg (by simpa [h] using hp)]; simp [List.filter, hp]
theorem occ_at (xs : List Int) : ∀ (s k : Nat), k < xs.length → 0 < xs.getD k 0 → occTo xs k < (occ s xs).length ∧ (occ s xs).getD (occTo xs k) (0, 0) = (s + k, xs.getD k 0) := by
  induction xs with
  | nil => intro s k h; simp at h
  | cons n r ih =>
    intro s k h hp
    cases k with
    | zero =>
      have hn : 0 < n := by simpa using hp
      simp [occ, occTo, hn]
    | succ k =>
      have h1 := ih (s + 1) k (by simpa using h) (by simpa using hp)
      by_cases hn : 0 < n
      · have e : occTo (n :: r) (k + 1) = occTo r k + 1 := by simp [occTo, hn]
        rw [e]
        simp only [occ, if_pos hn, List.length_cons, List.getD_cons_succ]
        exact ⟨by omega, by rw [h1.2]; simp; omega⟩
      · have e : occTo (n :: r) (k + 1) = occTo r k := by simp [occTo, hn]
        rw [e]
        simp only [occ, if_neg hn, List.getD_cons_succ]
        exact ⟨h1.1, by rw [h1.2]; simp; omega⟩
set_option maxHeartbeats 1000000 in
theorem occurring_iter (xs : List Int) (a : Option Addr) (cap bx l : Nat) (hm : xs.length ≤ 9223372036854775807) (J : Nat → World → Prop) (Jx : World → Prop) (W : World)
    (hst : ∀ i X Y, Below X.heap.size X Y → J i X → J i Y) (hF : ∀ i X, J i X → X.cell? ⟨bx, 0, none⟩ = some (.slice a xs.length cap) ∧ Row .i64 X a xs)
    (hr : ∀ i X, i < (occ 0 xs).length → J i X → RoundOk Try.prog l (occArgs xs i) X (J (i + 1)) Jx) (h0 : J 0 W) :
    Calls Try.prog 51 #[.func (.yield l) #[] #[], .pointer (some ⟨bx, 0, none⟩)] W fun e W' => (∃ v, e = .returned v) ∧ (J (occ 0 xs).length W' ∨ Jx W') := by
  refine callsIn_wide (n := 0) |>.1 (callsIn_of_wp Try.func51 rfl trivial ?_ rfl)
  simp only [Try.ntmps51, List.size_toArray, List.length_cons, List.length_nil, Nat.reduceAdd, Nat.reduceSub, Array.replicate_succ, Array.replicate_zero, List.push_toArray, List.append_toArray, List.nil_append, List.cons_append]
  have hc0 := (hF 0 W h0).1
  gi_wp2
  gi_loopw [7] (fun v wr => ∃ k : Nat, v = .int .i64 k ∧ k ≤ xs.length ∧ J (occTo xs k) wr) (fun v wr => xs.length - (intOf v).toNat)
  case atStart => exact ⟨0, rfl, by omega, h0⟩
  case round =>
    obtain ⟨k, rfl, hk, hj⟩ := hrel
    by_cases hlt : k < xs.length
    · obtain ⟨hcx, hrow⟩ := hF _ wr hj
      obtain ⟨b1, o1, rfl, hb1, hc1⟩ := hrow.at hlt
      have c1 := hc1 k hlt
      have hsu := occTo_succ xs k hlt
      have hat := occ_at xs 0 k hlt
      obtain ⟨x, hx⟩ : ∃ x, xs.getD k 0 = x := ⟨_, rfl⟩
      rw [hx] at c1 hsu hat
      have HX := Lib.hid hx
      have i0 : (0 : Int) ≤ (k : Int) := by omega
      have i1 : (k : Int) < (xs.length : Int) := by omega
      by_cases hp : 0 < x
      · obtain ⟨hat1, hat2⟩ := hat hp
        obtain ⟨fn, tmps, assign, body, hy, hR⟩ := hr _ wr hat1 hj
        unfold occArgs at hy
        rw [hat2] at hy
        simp only [Nat.zero_add] at hy
        rw [if_pos hp] at hsu
        have HS := Lib.hid hsu
        clear hc1 hcx hrow hsu hat hx hat2 hc0
        gi_wp2
        refine ⟨rfl, hR.mono ?_⟩
        rintro e W3 (⟨rfl, hJ3⟩ | ⟨rfl, hJx3⟩)
        · gi_wp2
          go_roundw
          case rel => exact ⟨k + 1, by go_num, by omega, by rw [HS.out]; exact hJ3⟩
          case measure => go_light; simp [intOf]; omega
        · gi_wp2
          refine bodyPost_ret (results_none rfl _ _ _) rfl ?_
          exact ⟨⟨_, rfl⟩, .inr hJx3⟩
      · rw [if_neg hp] at hsu
        have HS := Lib.hid hsu
        clear hc1 hcx hrow hsu hat hx hc0
        gi_wp2
        refine ⟨fun _ h => (by cases h), ?_⟩
        gi_wp2
        go_roundw
        case rel => exact ⟨k + 1, by go_num, by omega, by rw [HS.out]; exact hj⟩
        case measure => go_light; simp [intOf]; omega
    · have hkk : k = xs.length := by omega
      have hj2 : J (occ 0 xs).length wr := by rw [← occTo_all, ← hkk]; exact hj
      clear hkk hc0
      gi_wp2
      go_end0
      exact ⟨⟨_, rfl⟩, .inl hj2⟩
end Go.Proofs.Ytmfgkimbehkdeaa
