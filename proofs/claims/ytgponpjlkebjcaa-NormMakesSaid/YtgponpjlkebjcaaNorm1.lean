/-
  Small functions of the distributions, walked: weights, the greatest, sums, shares, bits.
-/
import Derived.Test.YtgponpjlkebjcaaRows
import Derived.Test.YtgponpjlkebjcaaCountsLaw
import Derived.Test.YtgponpjlkebjcaaKnSame
import Derived.Test.YtgponpjlkebjcaaCommon
import Derived.Deep.Light
import Derived.Shelf.Abstract
import Derived.Shelf.RegionOpen
import Derived.OwnWalkIn
import Derived.TacticsInMore
import Derived.LoopNIn
import Derived.LoopIn
import Derived.Outline
namespace Go.Proofs.Ytgponpjlkebjcaa
open Go.RowKit
set_option linter.unusedSimpArgs false
set_option linter.unusedVariables false
open Go.Shelf
attribute [local go_sem] Oper.semAt_some

def wgh (p : Int) : Int := if p < 0 then 1 else p

theorem weigh_s (p : Int) (w : World) : Calls Try.prog 66 #[.int .i64 p] w fun e w' => e = .returned (.int .i64 (wgh p)) ∧ w' = w := by
  unfold wgh
  by_cases h : p < 0
  · rw [if_pos h]
    go_enter Try.func66, Try.ntmps66
    go_wp2
    go_ret
    exact ⟨rfl, rfl⟩
  · rw [if_neg h]
    go_enter Try.func66, Try.ntmps66
    go_wp2
    go_ret
    exact ⟨rfl, rfl⟩

theorem value_s (p : Int) (w : World) : Calls Try.prog 71 #[.int .i64 p] w fun e w' => e = .returned (.int .i64 (wgh p)) ∧ w' = w := by
  unfold wgh
  by_cases h : p < 0
  · rw [if_pos h]
    go_enter Try.func71, Try.ntmps71
    go_wp2
    go_ret
    exact ⟨rfl, rfl⟩
  · rw [if_neg h]
    go_enter Try.func71, Try.ntmps71
    go_wp2
    go_ret
    exact ⟨rfl, rfl⟩

theorem weight_s (p : Int) (w : World) : Calls Try.prog 51 #[.int .i64 p] w fun e w' => e = .returned (.int .i64 (wgh p)) ∧ w' = w := by
  unfold wgh
  by_cases h : p < 0
  · rw [if_pos h]
    go_enter Try.func51, Try.ntmps51
    go_wp2
    go_ret
    exact ⟨rfl, rfl⟩
  · rw [if_neg h]
    go_enter Try.func51, Try.ntmps51
    go_wp2
    go_ret
    exact ⟨rfl, rfl⟩

theorem same_s (p : Int) (w : World) : Calls Try.prog 68 #[.int .i64 p] w fun e w' => e = .returned (.int .i64 p) ∧ w' = w := by
  go_enter Try.func68, Try.ntmps68
  go_wp2
  go_ret
  exact ⟨rfl, rfl⟩
/-- The place of the greatest among the first k. -/
def amF (xs : List Int) : Nat → Nat
  | 0 => 0
  | k + 1 => if xs.getD (amF xs k) 0 < xs.getD k 0 then k else amF xs k
def amx (xs : List Int) : Nat := amF xs xs.length
theorem amF_lt (xs : List Int) : ∀ k, 0 < k → amF xs k < k := by
  intro k
  induction k with
  | zero => intro h; omega
  | succ k ih =>
    intro _
    unfold amF
    split
    · omega
    · by_cases h : 0 < k
      · have := ih h; omega
      · have : k = 0 := by omega
        subst this
        simp [amF]

set_option maxHeartbeats 1000000 in
theorem greatest_s (a : Option Addr) (xs : List Int) (cap : Nat) (w : World) (ha : Row .i64 w a xs) (hl : xs.length ≤ 9223372036854775807) :
    Calls Try.prog 67 #[.slice a xs.length cap, .func (.func 68) #[] #[]] w fun e w' => e = .returned (.int .i64 (amx xs : Nat)) ∧ Below w.heap.size w w' := by
  go_enter Try.func67, Try.ntmps67
  go_wp2
  go_loopw [5, 10] (fun b v wr => ∃ (k m : Nat), k ≤ xs.length ∧ v = .int .i64 (k : Int) ∧ b = .int .i64 (m : Int) ∧ Hid (amF xs k = m) ∧ (0 < k → m < k) ∧ Below w.heap.size w wr) (fun _ v _ => xs.length - (intOf v).toNat)
  case atStart => exact ⟨0, 0, by omega, rfl, rfl, rfl, by omega, Below.refl _ _⟩
  case round =>
    obtain ⟨k, m, hk, rfl, rfl, HM, hm, hb⟩ := hrel
    by_cases hlt : k < xs.length
    · have hm2 : m < xs.length := by
        by_cases h0 : 0 < k
        · have := hm h0; omega
        · have h1 := HM.out
          have : k = 0 := by omega
          subst this
          simp [amF] at h1
          omega
      have hmk : m < k + 1 := by
        by_cases h0 : 0 < k
        · have := hm h0; omega
        · have h1 := HM.out
          have : k = 0 := by omega
          subst this
          simp [amF] at h1
          omega
      obtain ⟨b1, o1, rfl, hb1, hc1⟩ := (ha.later hb).at hlt
      have c1 := hc1 k hlt
      have c2 := hc1 m hm2
      obtain ⟨x, hx⟩ : ∃ x, xs.getD k 0 = x := ⟨_, rfl⟩
      obtain ⟨y, hy⟩ : ∃ y, xs.getD m 0 = y := ⟨_, rfl⟩
      rw [hx] at c1
      rw [hy] at c2
      have hsu : amF xs (k + 1) = if y < x then k else m := by
        rw [← hx, ← hy, ← HM.out]
        rfl
      have HSU := Lib.hid hsu
      have i0 : (0 : Int) ≤ (k : Int) := by omega
      have i1 : (k : Int) < (xs.length : Int) := by omega
      have i2 : (0 : Int) ≤ (m : Int) := by omega
      have i3 : (m : Int) < (xs.length : Int) := by omega
      clear hc1 hx hy hsu
      by_cases hyx : y < x
      · have HS2 : Hid (amF xs (k + 1) = k) := Lib.hid (by rw [HSU.out, if_pos hyx])
        have d1 : decide (y < x) = true := decide_eq_true hyx
        go_wp2
        go_quiet ((go_at_call 68; exact Calls.quiet_of_same (same_s _ _)))
        go_wp2
        go_roundw
        case rel => exact ⟨k + 1, k, by omega, by go_num, rfl, HS2, by omega, below_drewN hb _⟩
        case measure => go_light; simp [intOf] <;> omega
      · have HS2 : Hid (amF xs (k + 1) = m) := Lib.hid (by rw [HSU.out, if_neg hyx])
        have d1 : decide (y < x) = false := decide_eq_false hyx
        go_wp2
        go_quiet ((go_at_call 68; exact Calls.quiet_of_same (same_s _ _)))
        go_wp2
        go_roundw
        case rel => exact ⟨k + 1, m, by omega, by go_num, rfl, HS2, by omega, below_drewN hb _⟩
        case measure => go_light; simp [intOf] <;> omega
    · obtain rfl : k = xs.length := by omega
      go_wp2
      go_ret
      exact ⟨by unfold amx; rw [HM.out]; rfl, hb⟩

def wsum (ps : List Int) : Int := (ps.map wgh).sum
theorem wsum_take (ps : List Int) (k : Nat) (h : k < ps.length) (x : Int) (hx : ps.getD k 0 = x) : wsum (ps.take (k + 1)) = wsum (ps.take k) + wgh x := by
  simp [h] at hx
  rw [List.take_succ_eq_append_getElem h, hx]
  simp [wsum]
theorem wgh_bd (x : Int) (h : x ≤ 1000000) : 0 ≤ wgh x ∧ wgh x ≤ 1000000 := by unfold wgh; split <;> omega
theorem wsum_bd (ps : List Int) (h : ∀ k, k < ps.length → ps.getD k 0 ≤ 1000000) : ∀ k, k ≤ ps.length → 0 ≤ wsum (ps.take k) ∧ wsum (ps.take k) ≤ 1000000 * k := by
  intro k
  induction k with
  | zero => intro _; simp [wsum]
  | succ k ih =>
    intro hk
    obtain ⟨h1, h2⟩ := ih (by omega)
    have h3 := wgh_bd _ (h k (by omega))
    rw [wsum_take ps k (by omega) _ rfl]
    push_cast
    omega
set_option maxHeartbeats 1000000 in
theorem rsum_s (a : Option Addr) (ps : List Int) (cap : Nat) (w : World) (ha : Row .i64 w a ps) (hl : ps.length ≤ 256) (hb : ∀ k, k < ps.length → ps.getD k 0 ≤ 1000000) :
    Calls Try.prog 70 #[.slice a ps.length cap] w fun e w' => e = .returned (.int .i64 (wsum ps)) ∧ w' = w := by
  have HB := Lib.hid hb
  have HWB := Lib.hid (wsum_bd ps hb)
  clear hb
  go_enter Try.func70, Try.ntmps70
  go_wp2
  go_loop [3, 4] (fun v i => ∃ (k : Nat) (x : Int), k ≤ ps.length ∧ i = .int .i64 (k : Int) ∧ v = .int .i64 x ∧ Hid (x = wsum (ps.take k))) (fun _ i => ps.length - (intOf i).toNat)
  case atStart => exact ⟨0, 0, by omega, rfl, rfl, by exact Lib.hid (by simp [wsum])⟩
  case round =>
    obtain ⟨k, x, hk, rfl, rfl, HX⟩ := hrel
    by_cases hlt : k < ps.length
    · obtain ⟨b1, o1, rfl, hb1, hc1⟩ := ha.at hlt
      have c1 := hc1 k hlt
      have hbd := HB.out k hlt
      obtain ⟨y, hy⟩ : ∃ y, ps.getD k 0 = y := ⟨_, rfl⟩
      rw [hy] at c1 hbd
      have hsu := wsum_take ps k hlt y hy
      rw [← HX.out] at hsu
      have HSU := Lib.hid hsu
      obtain ⟨h1, h2⟩ := HWB.out k hk
      rw [← HX.out] at h1 h2
      obtain ⟨h3, h4⟩ := wgh_bd y hbd
      obtain ⟨z, hz⟩ : ∃ z, wgh y = z := ⟨_, rfl⟩
      have HZ := Lib.hid hz
      have qv := fun w => value_s y w
      rw [hz] at h3 h4 qv
      have i0 : (0 : Int) ≤ (k : Int) := by omega
      have i1 : (k : Int) < (ps.length : Int) := by omega
      clear hc1 hy hsu hz
      go_wp2_with (go_at_call 71; refine (qv _).mono ?_; rintro e w' ⟨rfl, rfl⟩)
      go_round
      case rel => exact ⟨k + 1, x + z, by omega, by go_num, rfl, by rw [HSU.out, HZ.out]; rfl⟩
      case measure => go_light; simp [intOf] <;> omega
    · obtain rfl : k = ps.length := by omega
      go_wp2
      go_ret
      exact ⟨by rw [HX.out, List.take_length]; rfl, rfl⟩

/-- A share, rounded down. -/
def shr (c n : Int) (l : Nat) : Int := c * 2 ^ l / n
theorem shr_step (c n : Int) (k : Nat) (hn : 0 < n) (hc : 0 ≤ c) (o r : Int) (h1 : c * 2 ^ k = o * n + r) (h2 : 0 ≤ r) (h3 : r < n) :
    (n ≤ 2 * r → c * 2 ^ (k + 1) = (2 * o + 1) * n + (2 * r - n) ∧ 0 ≤ 2 * r - n ∧ 2 * r - n < n) ∧ (¬ n ≤ 2 * r → c * 2 ^ (k + 1) = (2 * o) * n + 2 * r ∧ 0 ≤ 2 * r ∧ 2 * r < n) := by
  have e : c * 2 ^ (k + 1) = 2 * (o * n + r) := by rw [← h1, Int.pow_succ, Int.mul_comm (2 ^ k) 2, ← Int.mul_assoc, Int.mul_comm c 2, Int.mul_assoc]
  have e2 : (2 * o + 1) * n = 2 * (o * n) + n := by rw [Int.add_mul, Int.mul_assoc, Int.one_mul]
  have e3 : (2 * o) * n = 2 * (o * n) := by rw [Int.mul_assoc]
  rw [e, e2, e3]
  omega
theorem shr_of (c n : Int) (l : Nat) (o r : Int) (hn : 0 < n) (h1 : c * 2 ^ l = o * n + r) (h2 : 0 ≤ r) (h3 : r < n) : shr c n l = o := by
  unfold shr
  rw [h1, Int.add_comm, Int.add_mul_ediv_right _ _ (by omega), Int.ediv_eq_zero_of_lt h2 h3, Int.zero_add]
theorem pow12 (l : Nat) (h : l ≤ 12) : 1 ≤ (2 : Int) ^ l ∧ (2 : Int) ^ l ≤ 4096 := by
  have key : ∀ k : Fin 13, 1 ≤ (2 : Int) ^ k.1 ∧ (2 : Int) ^ k.1 ≤ 4096 := by decide
  exact key ⟨l, by omega⟩
theorem share_bd (c n o r : Int) (k l : Nat) (hk : k ≤ l) (hl : l ≤ 12) (hn : 0 < n) (hc : 0 ≤ c) (hc2 : c ≤ 1099511627776) (h1 : c * 2 ^ k = o * n + r) (h2 : 0 ≤ r) (h3 : r < n) : 0 ≤ o ∧ o ≤ 4503599627370496 := by
  have hp := pow12 k (by omega)
  have h4 : c * 2 ^ k ≤ 1099511627776 * 4096 := Int.mul_le_mul hc2 hp.2 (by omega) (by omega)
  have h5 : 0 ≤ c * 2 ^ k := Int.mul_nonneg hc (by omega)
  have h6 : o = c * 2 ^ k / n := (shr_of c n k o r hn h1 h2 h3).symm
  constructor
  · rw [h6]; exact Int.ediv_nonneg h5 (by omega)
  · have h7 : c * 2 ^ k / n ≤ c * 2 ^ k := Int.ediv_le_self _ h5
    omega
set_option maxHeartbeats 1000000 in
theorem share_s (c n : Int) (l : Nat) (w : World) (hn : 0 < n) (hn2 : n ≤ 1099511627776) (hc : 0 ≤ c) (hc2 : c ≤ 1099511627776) (hl : l ≤ 12) :
    Calls Try.prog 69 #[.int .i64 c, .int .i64 n, .int .i64 (l : Int)] w fun e w' => e = .returned (.int .i64 (shr c n l)) ∧ Below w.heap.size w w' := by
  have hn1 : ¬ n = 0 := by omega
  have hn3 : (n == 0) = false := by simp; omega
  have d1 : (1 : Int) ≤ n := by omega
  have s0 : c * 2 ^ 0 = (c / n) * n + c % n := by
    have := Int.mul_ediv_add_emod c n
    rw [Int.mul_comm] at this
    simp
    omega
  have HS0 := Lib.hid s0
  have r0 := Int.emod_nonneg c (b := n) (by omega)
  have r1 := Int.emod_lt_of_pos c hn
  have q0 : 0 ≤ c / n := Int.ediv_nonneg hc (by omega)
  have q1 : c / n ≤ c := Int.ediv_le_self _ hc
  clear s0
  go_enter Try.func69, Try.ntmps69
  go_wp2
  go_quiet (fail)
  go_wp2
  obtain ⟨o0, ho0⟩ : ∃ o, c / n = o := ⟨_, rfl⟩
  obtain ⟨t0, ht0⟩ : ∃ o, c % n = o := ⟨_, rfl⟩
  rw [ho0, ht0] at HS0
  simp only [ho0, ht0] at r0 r1 q0 q1
  first | rw [ho0, ht0] | skip
  clear ho0 ht0 q0 q1 hn1 hn3
  go_loopw [7, 8, 9] (fun vo vr v wr => ∃ (k : Nat) (o r : Int), k ≤ l ∧ v = .int .i64 (k : Int) ∧ vo = .int .i64 o ∧ vr = .int .i64 r ∧ Hid (c * 2 ^ k = o * n + r) ∧ 0 ≤ r ∧ r < n ∧ Below w.heap.size w wr) (fun _ _ v _ => l - (intOf v).toNat)
  case atStart => exact ⟨0, o0, t0, by omega, rfl, rfl, rfl, HS0, r0, r1, below_drewN (Below.refl _ _) _⟩
  case round =>
    clear HS0 r0 r1
    obtain ⟨k, o, r, hk, rfl, rfl, rfl, HK, h2, h3, hb⟩ := hrel
    obtain ⟨b1, b2⟩ := share_bd c n o r k l hk hl hn hc hc2 HK.out h2 h3
    by_cases hlt : k < l
    · have hst := shr_step c n k hn hc o r HK.out h2 h3
      have i1 : (k : Int) < (l : Int) := by omega
      by_cases hr : n ≤ 2 * r
      · obtain ⟨e1, e2, e3⟩ := hst.1 hr
        have E1 := Lib.hid e1
        clear hst e1
        go_wp2
        go_roundw
        case rel => exact ⟨k + 1, _, _, by omega, by go_num, rfl, rfl, E1, e2, e3, hb⟩
        case measure => go_light; simp [intOf] <;> omega
      · obtain ⟨e1, e2, e3⟩ := hst.2 hr
        have E1 := Lib.hid e1
        clear hst e1
        go_wp2
        go_roundw
        case rel => exact ⟨k + 1, _, _, by omega, by go_num, rfl, rfl, E1, e2, e3, hb⟩
        case measure => go_light; simp [intOf] <;> omega
    · obtain rfl : k = l := by omega
      have HF := Lib.hid (shr_of c n k o r hn HK.out h2 h3)
      go_wp2
      go_ret
      exact ⟨by rw [HF.out]; rfl, hb⟩

/-- The highest bit, -1 of nothing. -/
def hi (n : Nat) : Int := if n = 0 then -1 else (Nat.log2 n : Int)
theorem hi_half (n : Nat) (h : 0 < n) : hi n = hi (n / 2) + 1 := by
  unfold hi
  rw [if_neg (by omega)]
  by_cases h2 : n / 2 = 0
  · have : n = 1 := by omega
    subst this
    decide
  · rw [if_neg h2]
    rw [Nat.log2_def n, if_pos (by omega)]
    omega
theorem hi_bd (n : Nat) (h : n < 2 ^ 62) : -1 ≤ hi n ∧ hi n ≤ 61 := by
  unfold hi
  split
  · omega
  · have := (Nat.log2_lt (by omega)).2 h
    omega
theorem hi_shift (n k : Nat) : 0 < n / 2 ^ k ↔ (k : Int) ≤ hi n := by
  unfold hi
  by_cases h : n = 0
  · subst h
    simp
    omega
  · rw [if_neg h, Nat.div_pos_iff]
    have := Nat.le_log2 h (k := k)
    constructor
    · intro h2
      have := this.2 h2.2
      omega
    · intro h2
      exact ⟨Nat.pow_pos (by omega), this.1 (by omega)⟩
end Go.Proofs.Ytgponpjlkebjcaa
