/-
  Counts made of numbers, walked.
-/
import Derived.Test.YtgponpjlkebjcaaRows
import Derived.Test.YtgponpjlkebjcaaNorm8
import Derived.Test.YtgponpjlkebjcaaMod
import Derived.Test.YtgponpjlkebjcaaCommon
import Derived.Deep.Light
import Derived.Shelf.Abstract
import Derived.Shelf.RegionOpen
import Derived.OwnWalkIn
import Derived.TacticsInMore
import Derived.LoopNIn
import Derived.LoopIn
import Derived.Outline
import Derived.Maps.AppendAt
namespace Go.Proofs.Ytgponpjlkebjcaa
open Go.RowKit
set_option linter.unusedSimpArgs false
set_option linter.unusedVariables false
attribute [local go_sem] Oper.semAt_some

/-- A count made of a number. -/
def cval (v : Int) : Int := if v % 1048576 % 4 = 0 then 0 else if v % 1048576 % 4 = 1 then v % 1048576 else v % 1048576 / 4 % 20
def cq : List Int → List Int
  | [] => [1]
  | v :: r => (cval v + 1) :: r.map cval
/-- The counts that the statements make. -/
def cnts (xs : List Int) : List Int := cq (xs.take 40)
theorem cval_bd (v : Int) : 0 ≤ cval v ∧ cval v ≤ 1048575 := by
  unfold cval
  split
  · omega
  · split <;> omega
theorem cq_len (xs : List Int) : (cq xs).length = max 1 xs.length := by cases xs <;> simp [cq] <;> omega
theorem cq_one (x : Int) : cq [x] = [cval x + 1] := rfl
theorem cq_snoc (xs : List Int) (x : Int) (h : xs ≠ []) : cq (xs ++ [x]) = cq xs ++ [cval x] := by
  cases xs with
  | nil => exact absurd rfl h
  | cons v r => simp [cq]
theorem cq_take (xs : List Int) (k : Nat) (h : k < xs.length) (x : Int) (hx : xs.getD k 0 = x) : cq (xs.take (k + 1)) = if k = 0 then [cval x + 1] else cq (xs.take k) ++ [cval x] := by
  simp [h] at hx
  rw [List.take_succ_eq_append_getElem h, hx]
  by_cases h0 : k = 0
  · rw [if_pos h0]
    subst h0
    rfl
  · rw [if_neg h0]
    refine cq_snoc _ _ ?_
    intro h1
    have := congrArg List.length h1
    rw [List.length_take, List.length_nil] at this
    omega
theorem cq_bd : ∀ (xs : List Int) (k : Nat), 0 ≤ (cq xs).getD k 0 ∧ (cq xs).getD k 0 ≤ 1048576
  | [], 0 => by simp [cq]
  | [], k + 1 => by simp [cq]
  | v :: r, 0 => by have := cval_bd v; simp [cq]; omega
  | v :: r, k + 1 => by
    have e : (cq (v :: r)).getD (k + 1) 0 = (r.map cval).getD k 0 := rfl
    rw [e, List.getD_eq_getElem?_getD, List.getElem?_map]
    rcases h : r[k]? with _ | y
    · simp
    · have := cval_bd y
      simp
      omega
theorem sum_bd (xs : List Int) (h : ∀ k, 0 ≤ xs.getD k 0 ∧ xs.getD k 0 ≤ 1048576) : ∀ k, k ≤ xs.length → 0 ≤ (xs.take k).sum ∧ (xs.take k).sum ≤ 1048576 * k := by
  intro k
  induction k with
  | zero => intro _; simp
  | succ k ih =>
    intro hk
    obtain ⟨h1, h2⟩ := ih (by omega)
    have h3 := h k
    rw [sum_take_succ (by omega) rfl]
    push_cast
    omega
theorem own_lit (w : World) (x : Int) (t : TypeId) : (w.alloc (.cells #[.int .i64 x] t)).ownsRow w.heap.size t 1 (.slice (some ⟨w.heap.size, 0, none⟩) 1 1) 1 ([x].map (Value.int .i64)) :=
  ⟨rfl, .inr ⟨w.heap.size, 1, #[.int .i64 x], rfl, Nat.le_refl _, heap_alloc_new _ _, Nat.le_refl _, by unfold maxLen; omega, rfl, rfl⟩⟩
theorem own_base {w : World} {base : Nat} {e : TypeId} {v : Value} {n : Nat} {xs : List Value} (h : w.ownsRow base e 1 v n xs) : ∀ g, v.ownBlock = some g → base ≤ g := by
  intro g hg
  obtain ⟨hl, h⟩ := h
  rcases h with ⟨rfl, rfl⟩ | ⟨g', cap, cur, rfl, hg', hh, _⟩
  · cases hg
  · cases hg; exact hg'
theorem own_pos {w : World} {base : Nat} {e : TypeId} {v : Value} {n : Nat} {xs : List Value} (h : w.ownsRow base e 1 v n xs) (hn : 0 < n) : ∃ g cap, v = .slice (some ⟨g, 0, none⟩) n cap ∧ base ≤ g ∧ g < w.heap.size := by
  rcases h.2 with ⟨_, rfl⟩ | ⟨g, cap, cur, rfl, hg, hh, _⟩
  · omega
  · exact ⟨g, cap, rfl, hg, (Array.getElem?_eq_some_iff.1 hh).1⟩
def CntPost (n : Nat) (S : Int) (Y : List Int) (w : World) (e : Ending) (w' : World) : Prop := ∃ pa ca, e = .returned (.tuple #[.slice pa n ca, .int .i64 S]) ∧ Row .i64 w' pa Y ∧ Below w.heap.size w w'
theorem cq_head (xs : List Int) : ((cq xs).map (Value.int .i64))[0]? = some (.int .i64 ((cq xs).getD 0 0)) := by cases xs <;> rfl
theorem one_int' (k : IntKind) (x : Int) : ∀ u ∈ [Value.int k x], u.oneCell' = true := by
  intro u hu
  simp at hu
  subst hu
  rfl
set_option maxRecDepth 100000 in
set_option maxHeartbeats 8000000 in
theorem counts_t (a : Option Addr) (xs : List Int) (cap : Nat) (w : World) (ha : Row .i64 w a xs) (hl : xs.length ≤ 9223372036854775807) (Y : List Int) (S : Int) (n : Nat) (hY : cnts xs = Y) (hS : Y.sum = S) (hn : Y.length = n) :
    Calls Try.prog 50 #[.slice a xs.length cap] w (CntPost n S Y w) := by
  have HY := Lib.hid hY
  have HS := Lib.hid hS
  have HNN := Lib.hid hn
  obtain ⟨i0, hinf, hz0, hz1, hz2⟩ := info_parts infoInt
  clear hY hS hn
  go_enter Try.func50, Try.ntmps50
  go_wp2
  go_loopw [4, 5] (fun v i wr => ∃ (k m g c : Nat), i = .int .i64 (k : Int) ∧ k ≤ 40 ∧ k ≤ xs.length ∧ v = .slice (some ⟨g, 0, none⟩) m c ∧ Hid ((cq (xs.take k)).length = m) ∧ 1 ≤ m ∧ m ≤ 40 ∧ wr.ownsRow w.heap.size 3 1 (.slice (some ⟨g, 0, none⟩) m c) m ((cq (xs.take k)).map (Value.int .i64)) ∧ Below w.heap.size w wr) (fun _ i _ => 40 - (intOf i).toNat)
  case atStart => exact ⟨0, 1, w.heap.size, 1, rfl, by omega, by omega, rfl, rfl, by omega, by omega, own_lit w 1 _, (Below.refl _ _).alloc (Nat.le_refl _) _⟩
  case round =>
    obtain ⟨k, m, g, c, rfl, hk4, hk, rfl, HM, hm1, hm4, hown, hb⟩ := hrel
    have HO := Lib.hid hown
    have hg1 := own_base hown g rfl
    clear hown
    by_cases hgo : k < xs.length ∧ k < 40
    · obtain ⟨hlt, hl4⟩ := hgo
      obtain ⟨b1, o1, rfl, hb1, hc1⟩ := (ha.later hb).at hlt
      have c1 := hc1 k hlt
      obtain ⟨x, hx⟩ : ∃ x, xs.getD k 0 = x := ⟨_, rfl⟩
      rw [hx] at c1
      have hsu := cq_take xs k hlt x hx
      have i0' : (0 : Int) ≤ (k : Int) := by omega
      have i1 : (k : Int) < (xs.length : Int) := by omega
      have i2 : (k : Int) < 40 := by omega
      have qM := fun w => modK x 1048576 (by omega) (by omega) w
      have m1 := Int.emod_nonneg x (b := 1048576) (by omega)
      have m2 := Int.emod_lt_of_pos x (b := 1048576) (by omega)
      have hcv : cval x = if x % 1048576 % 4 = 0 then 0 else if x % 1048576 % 4 = 1 then x % 1048576 else x % 1048576 / 4 % 20 := rfl
      obtain ⟨y, hy⟩ : ∃ y, x % 1048576 = y := ⟨_, rfl⟩
      rw [hy] at qM m1 m2 hcv
      have hk0 : k = 0 ∨ 0 < k := by omega
      clear hc1 hx hy
      have h3 : (y % 4 = 0 ∧ cval x = 0 ∧ (y % 4 == 0) = true) ∨ (y % 4 = 1 ∧ cval x = y ∧ (y % 4 == 0) = false ∧ (y % 4 == 1) = true) ∨ (cval x = y / 4 % 20 ∧ (y % 4 == 0) = false ∧ (y % 4 == 1) = false) := by
        by_cases h0 : y % 4 = 0
        · left; rw [if_pos h0] at hcv; exact ⟨h0, hcv, by simp [h0]⟩
        · rw [if_neg h0] at hcv
          by_cases h1 : y % 4 = 1
          · right; left; rw [if_pos h1] at hcv; exact ⟨h1, hcv, by simp [h0], by simp [h1]⟩
          · right; right; rw [if_neg h1] at hcv; exact ⟨hcv, by simp [h0], by simp [h1]⟩
      have HSU := Lib.hid hsu
      clear hcv hsu
      rcases h3 with ⟨_, hcv, t1⟩ | ⟨_, hcv, t1, t2⟩ | ⟨hcv, t1, t2⟩
      · skip
        have HCV := Lib.hid hcv
        clear hcv
        have hgl : g < wr.heap.size := by
          obtain ⟨g', c', h7, _, h8⟩ := own_pos HO.out hm1
          cases h7
          exact h8
        rcases hk0 with hk0 | hk0
        · have t5 : ((k : Int) == 0) = true := by simp; omega
          have HK0 := Lib.hid hk0
          clear hk0
          go_wp2_with (go_at_call 41; refine (qM _).mono ?_; rintro e w2 ⟨rfl, hb2⟩; have hs2 := hb2.size; have hg2 : g < w2.heap.size := (by omega); have hc0 := (ownsRow_later HO.out hb2).cellAt 0 (by omega); (have hcz : w2.cell? ⟨g, 0, none⟩ = some (.int .i64 ((cq (xs.take k)).getD 0 0)) := by (rw [hc0]; exact cq_head _)); (have hf0 : w2.frozen? ⟨g, 0, none⟩ = false := (ownsRow_later HO.out hb2).frozenAt 0); clear hc0)
          go_roundw
          case rel =>
            have hst := (ownsRow_later HO.out hb2).stored 0 (.int .i64 (cval x + 1))
            have hm : m = 1 := by have h6 := HM.out; rw [HK0.out] at h6; simp [cq] at h6; omega
            refine ⟨k + 1, m, g, c, by go_num, by omega, by omega, rfl, ?_, by omega, by omega, ?_, (hb.trans (hb2.mono hb.size)).setCell (by simp; omega) _⟩
            · exact Lib.hid (by rw [HSU.out, if_pos HK0.out, hm]; rfl)
            · have h9 := hst.1
              rw [HCV.out] at h9
              rw [HSU.out, if_pos HK0.out, HCV.out]
              rw [HK0.out] at h9
              simpa [cq] using h9
          case measure => go_light; simp [intOf] <;> omega
        · have t5 : ((k : Int) == 0) = false := by rw [beq_eq_false_iff_ne]; omega
          go_wp2_with (first | (go_at_call 41; refine (qM _).mono ?_; rintro e w2 ⟨rfl, hb2⟩; have hs2 := hb2.size; have hg2 : g < w2.heap.size := (by omega); have hc0 := (ownsRow_later HO.out hb2).cellAt 0 (by omega); (have hcz : w2.cell? ⟨g, 0, none⟩ = some (.int .i64 ((cq (xs.take k)).getD 0 0)) := by (rw [hc0]; exact cq_head _)); (have hf0 : w2.frozen? ⟨g, 0, none⟩ = false := (ownsRow_later HO.out hb2).frozenAt 0); clear hc0) | (at_builtin; refine wpList_append_own_at _ rfl _ _ 22 rfl w.heap.size 3 i0 (.int .i64 0) 1 8 Try.underlying22 hinf hz0 hz1 hz2 rfl (by decide) _ _ _ rfl ((ownsRow_later HO.out hb2).alloc _) ⟨w2.heap.size, 0, none⟩ 1 1 [.int .i64 0] rfl rfl (cell_one_new _ _ _) (one_int' _ _) ?_ ?_ ?_ ?_; (unfold maxLen; omega); omega; (have := hb.size; simp; omega); intro v' w4 ho' hg4 hnil hat; obtain ⟨g4, c4, rfl, hgb, hgl⟩ := own_pos ho' (by omega)))
          go_roundw
          case rel =>
            have h6 := HM.out
            rw [cq_len, List.length_take] at h6
            refine ⟨k + 1, m + 1, g4, c4, by go_num, by omega, by omega, rfl, ?_, by omega, by omega, ?_, ?_⟩
            · exact Lib.hid (by rw [HSU.out, if_neg (by omega), List.length_append, HM.out]; rfl)
            · rw [HSU.out, if_neg (by omega), HCV.out]
              simpa using ho'
            · exact ((hb.trans (hb2.mono hb.size)).alloc (by have := hb.size; omega) _).grown hg4 (by have := hb.size; simp; omega) (own_base HO.out)
          case measure => go_light; simp [intOf] <;> omega
      · skip
        have HCV := Lib.hid hcv
        clear hcv
        have hgl : g < wr.heap.size := by
          obtain ⟨g', c', h7, _, h8⟩ := own_pos HO.out hm1
          cases h7
          exact h8
        rcases hk0 with hk0 | hk0
        · have t5 : ((k : Int) == 0) = true := by simp; omega
          have HK0 := Lib.hid hk0
          clear hk0
          go_wp2_with (go_at_call 41; refine (qM _).mono ?_; rintro e w2 ⟨rfl, hb2⟩; have hs2 := hb2.size; have hg2 : g < w2.heap.size := (by omega); have hc0 := (ownsRow_later HO.out hb2).cellAt 0 (by omega); (have hcz : w2.cell? ⟨g, 0, none⟩ = some (.int .i64 ((cq (xs.take k)).getD 0 0)) := by (rw [hc0]; exact cq_head _)); (have hf0 : w2.frozen? ⟨g, 0, none⟩ = false := (ownsRow_later HO.out hb2).frozenAt 0); clear hc0)
          go_roundw
          case rel =>
            have hst := (ownsRow_later HO.out hb2).stored 0 (.int .i64 (cval x + 1))
            have hm : m = 1 := by have h6 := HM.out; rw [HK0.out] at h6; simp [cq] at h6; omega
            refine ⟨k + 1, m, g, c, by go_num, by omega, by omega, rfl, ?_, by omega, by omega, ?_, (hb.trans (hb2.mono hb.size)).setCell (by simp; omega) _⟩
            · exact Lib.hid (by rw [HSU.out, if_pos HK0.out, hm]; rfl)
            · have h9 := hst.1
              rw [HCV.out] at h9
              rw [HSU.out, if_pos HK0.out, HCV.out]
              rw [HK0.out] at h9
              simpa [cq] using h9
          case measure => go_light; simp [intOf] <;> omega
        · have t5 : ((k : Int) == 0) = false := by rw [beq_eq_false_iff_ne]; omega
          go_wp2_with (first | (go_at_call 41; refine (qM _).mono ?_; rintro e w2 ⟨rfl, hb2⟩; have hs2 := hb2.size; have hg2 : g < w2.heap.size := (by omega); have hc0 := (ownsRow_later HO.out hb2).cellAt 0 (by omega); (have hcz : w2.cell? ⟨g, 0, none⟩ = some (.int .i64 ((cq (xs.take k)).getD 0 0)) := by (rw [hc0]; exact cq_head _)); (have hf0 : w2.frozen? ⟨g, 0, none⟩ = false := (ownsRow_later HO.out hb2).frozenAt 0); clear hc0) | (at_builtin; refine wpList_append_own_at _ rfl _ _ 22 rfl w.heap.size 3 i0 (.int .i64 0) 1 8 Try.underlying22 hinf hz0 hz1 hz2 rfl (by decide) _ _ _ rfl ((ownsRow_later HO.out hb2).alloc _) ⟨w2.heap.size, 0, none⟩ 1 1 [.int .i64 y] rfl rfl (cell_one_new _ _ _) (one_int' _ _) ?_ ?_ ?_ ?_; (unfold maxLen; omega); omega; (have := hb.size; simp; omega); intro v' w4 ho' hg4 hnil hat; obtain ⟨g4, c4, rfl, hgb, hgl⟩ := own_pos ho' (by omega)))
          go_roundw
          case rel =>
            have h6 := HM.out
            rw [cq_len, List.length_take] at h6
            refine ⟨k + 1, m + 1, g4, c4, by go_num, by omega, by omega, rfl, ?_, by omega, by omega, ?_, ?_⟩
            · exact Lib.hid (by rw [HSU.out, if_neg (by omega), List.length_append, HM.out]; rfl)
            · rw [HSU.out, if_neg (by omega), HCV.out]
              simpa using ho'
            · exact ((hb.trans (hb2.mono hb.size)).alloc (by have := hb.size; omega) _).grown hg4 (by have := hb.size; simp; omega) (own_base HO.out)
          case measure => go_light; simp [intOf] <;> omega
      · skip
        have HCV := Lib.hid hcv
        clear hcv
        have hgl : g < wr.heap.size := by
          obtain ⟨g', c', h7, _, h8⟩ := own_pos HO.out hm1
          cases h7
          exact h8
        rcases hk0 with hk0 | hk0
        · have t5 : ((k : Int) == 0) = true := by simp; omega
          have HK0 := Lib.hid hk0
          clear hk0
          go_wp2_with (go_at_call 41; refine (qM _).mono ?_; rintro e w2 ⟨rfl, hb2⟩; have hs2 := hb2.size; have hg2 : g < w2.heap.size := (by omega); have hc0 := (ownsRow_later HO.out hb2).cellAt 0 (by omega); (have hcz : w2.cell? ⟨g, 0, none⟩ = some (.int .i64 ((cq (xs.take k)).getD 0 0)) := by (rw [hc0]; exact cq_head _)); (have hf0 : w2.frozen? ⟨g, 0, none⟩ = false := (ownsRow_later HO.out hb2).frozenAt 0); clear hc0)
          go_roundw
          case rel =>
            have hst := (ownsRow_later HO.out hb2).stored 0 (.int .i64 (cval x + 1))
            have hm : m = 1 := by have h6 := HM.out; rw [HK0.out] at h6; simp [cq] at h6; omega
            refine ⟨k + 1, m, g, c, by go_num, by omega, by omega, rfl, ?_, by omega, by omega, ?_, (hb.trans (hb2.mono hb.size)).setCell (by simp; omega) _⟩
            · exact Lib.hid (by rw [HSU.out, if_pos HK0.out, hm]; rfl)
            · have h9 := hst.1
              rw [HCV.out] at h9
              rw [HSU.out, if_pos HK0.out, HCV.out]
              rw [HK0.out] at h9
              simpa [cq] using h9
          case measure => go_light; simp [intOf] <;> omega
        · have t5 : ((k : Int) == 0) = false := by rw [beq_eq_false_iff_ne]; omega
          go_wp2_with (first | (go_at_call 41; refine (qM _).mono ?_; rintro e w2 ⟨rfl, hb2⟩; have hs2 := hb2.size; have hg2 : g < w2.heap.size := (by omega); have hc0 := (ownsRow_later HO.out hb2).cellAt 0 (by omega); (have hcz : w2.cell? ⟨g, 0, none⟩ = some (.int .i64 ((cq (xs.take k)).getD 0 0)) := by (rw [hc0]; exact cq_head _)); (have hf0 : w2.frozen? ⟨g, 0, none⟩ = false := (ownsRow_later HO.out hb2).frozenAt 0); clear hc0) | (at_builtin; refine wpList_append_own_at _ rfl _ _ 22 rfl w.heap.size 3 i0 (.int .i64 0) 1 8 Try.underlying22 hinf hz0 hz1 hz2 rfl (by decide) _ _ _ rfl ((ownsRow_later HO.out hb2).alloc _) ⟨w2.heap.size, 0, none⟩ 1 1 [.int .i64 (y / 4 % 20)] rfl rfl (cell_one_new _ _ _) (one_int' _ _) ?_ ?_ ?_ ?_; (unfold maxLen; omega); omega; (have := hb.size; simp; omega); intro v' w4 ho' hg4 hnil hat; obtain ⟨g4, c4, rfl, hgb, hgl⟩ := own_pos ho' (by omega)))
          go_roundw
          case rel =>
            have h6 := HM.out
            rw [cq_len, List.length_take] at h6
            refine ⟨k + 1, m + 1, g4, c4, by go_num, by omega, by omega, rfl, ?_, by omega, by omega, ?_, ?_⟩
            · exact Lib.hid (by rw [HSU.out, if_neg (by omega), List.length_append, HM.out]; rfl)
            · rw [HSU.out, if_neg (by omega), HCV.out]
              simpa using ho'
            · exact ((hb.trans (hb2.mono hb.size)).alloc (by have := hb.size; omega) _).grown hg4 (by have := hb.size; simp; omega) (own_base HO.out)
          case measure => go_light; simp [intOf] <;> omega
    · have htk : xs.take k = xs.take 40 := by
        by_cases h40 : k = 40
        · rw [h40]
        · rw [List.take_of_length_le (by omega), List.take_of_length_le (by omega)]
      have hYk : cq (xs.take k) = Y := by rw [htk]; exact HY.out
      have hmn : m = n := by have h6 := HM.out; rw [hYk] at h6; have := HNN.out; omega
      have hrow : Row .i64 wr (some ⟨g, 0, none⟩) Y := by
        have := HO.out
        rw [hYk] at this
        exact Row.of_own_slice this
      have hbd : ∀ k, 0 ≤ Y.getD k 0 ∧ Y.getD k 0 ≤ 1048576 := by rw [← hYk]; exact cq_bd _
      have HBD := Lib.hid hbd
      have HSB := Lib.hid (sum_bd Y hbd)
      subst hmn
      have hc12 : ((k : Int) < (xs.length : Int) ∧ ¬ (k : Int) < 40) ∨ ¬ (k : Int) < (xs.length : Int) := by omega
      clear hgo htk hYk hbd HO HM
      rcases hc12 with ⟨f1, f2⟩ | f1
      all_goals
        go_wp2
        go_loop [8, 9] (fun s i => ∃ (j : Nat) (x : Int), j ≤ m ∧ i = .int .i64 (j : Int) ∧ s = .int .i64 x ∧ Hid (x = (Y.take j).sum)) (fun _ i => m - (intOf i).toNat)
        case atStart => exact ⟨0, 0, by omega, rfl, rfl, Lib.hid (by simp)⟩
        case round =>
          obtain ⟨j, x, hj, rfl, rfl, HX⟩ := hrel
          by_cases hjm : j < m
          · obtain ⟨b2, o2, he2, hb2, hc2⟩ := hrow.at (i := j) (by rw [HNN.out]; exact hjm)
            cases he2
            have c2 := hc2 j (by rw [HNN.out]; exact hjm)
            have bd := HBD.out j
            obtain ⟨y, hy⟩ : ∃ y, Y.getD j 0 = y := ⟨_, rfl⟩
            rw [hy] at c2 bd
            obtain ⟨bd1, bd2⟩ := bd
            obtain ⟨sb1, sb2⟩ := HSB.out j (by rw [HNN.out]; exact hj)
            rw [← HX.out] at sb1 sb2
            have HSS := Lib.hid (sum_take_succ (show j < Y.length by rw [HNN.out]; exact hjm) hy)
            have i0' : (0 : Int) ≤ (j : Int) := by omega
            have i1 : (j : Int) < (m : Int) := by omega
            simp only [Nat.zero_add] at c2
            clear hc2 hy
            go_wp2
            go_round
            case rel => exact ⟨j + 1, x + y, by omega, by go_num, rfl, Lib.hid (by rw [HSS.out, HX.out])⟩
            case measure => go_light; simp [intOf] <;> omega
          · obtain rfl : j = m := by omega
            have hxs : x = S := by have h1 := HX.out; have h2 := HNN.out; rw [List.take_of_length_le (by omega)] at h1; rw [h1]; exact HS.out
            have HXS := Lib.hid hxs
            clear hxs
            go_wp2
            go_light
            refine bodyPost_ret (results_tmp2 rfl _ _ _) rfl ?_
            exact ⟨_, _, by rw [← HXS.out]; rfl, hrow, hb⟩
end Go.Proofs.Ytgponpjlkebjcaa
