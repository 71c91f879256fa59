/-
  The reference's sums, errors of counts, greatest length and totals, walked.
-/
import Derived.Test.YtmfgkimbehkdeaaRows
import Derived.Test.YtmfgkimbehkdeaaHufTot
import Derived.Test.YtmfgkimbehkdeaaGBase
import Derived.Deep.Light
import Derived.Shelf.Abstract
import Derived.Shelf.RegionOpen
import Derived.OwnWalkIn
import Derived.TacticsInMore
import Derived.LoopNIn
import Derived.LoopIn
import Derived.IntWalk
namespace Go.Proofs.Ytmfgkimbehkdeaa
open Go.RowKit
set_option linter.unusedSimpArgs false
set_option linter.unusedVariables false
attribute [local go_sem] Oper.semAt_some

def bdd (n : Int) : Bool := decide (0 ≤ n) && decide (n ≤ 1099511627776)
theorem bdd_t {n : Int} (h : 0 ≤ n ∧ n ≤ 1099511627776) : bdd n = true := by unfold bdd; simp; exact h
theorem bdd_f {n : Int} (h : ¬ (0 ≤ n ∧ n ≤ 1099511627776)) : bdd n = false := by
  rw [← Bool.not_eq_true]
  intro h2
  unfold bdd at h2
  simp at h2
  exact h h2
theorem bounded_s (n : Int) (w : World) : Calls Try.prog 46 #[.int .i64 n] w fun e w' => e = .returned (.bool (bdd n)) ∧ w' = w := by
  by_cases h0 : 0 ≤ n
  · by_cases h1 : n ≤ 1099511627776
    · rw [bdd_t ⟨h0, h1⟩]
      go_enter Try.func46, Try.ntmps46
      go_wp2
      go_ret
      exact ⟨rfl, rfl⟩
    · rw [bdd_f (fun h => h1 h.2)]
      go_enter Try.func46, Try.ntmps46
      go_wp2
      go_ret
      exact ⟨rfl, rfl⟩
  · rw [bdd_f (fun h => h0 h.1)]
    go_enter Try.func46, Try.ntmps46
    go_wp2
    go_ret
    exact ⟨rfl, rfl⟩

theorem plus_s (a b : Int) (w : World) (h0 : 0 ≤ a) (h1 : a ≤ 1099511627776) : Calls Try.prog 36 #[.int .i64 a, .int .i64 b] w fun e w' => e = .returned (.tuple #[.int .i64 (if 0 ≤ b ∧ b ≤ 1099511627776 ∧ a + b ≤ 1099511627776 then a + b else 0), .int .i64 (if 0 ≤ b ∧ b ≤ 1099511627776 ∧ a + b ≤ 1099511627776 then 0 else 2)]) ∧ w' = w := by
  have qa := fun w => bounded_s a w
  rw [bdd_t ⟨h0, h1⟩] at qa
  have qb := fun w => bounded_s b w
  by_cases hb : 0 ≤ b ∧ b ≤ 1099511627776
  · rw [bdd_t hb] at qb
    obtain ⟨hb0, hb1⟩ := hb
    have qc := fun w => bounded_s (a + b) w
    by_cases hs : a + b ≤ 1099511627776
    · rw [bdd_t ⟨by omega, hs⟩] at qc
      rw [if_pos ⟨hb0, hb1, hs⟩, if_pos ⟨hb0, hb1, hs⟩]
      go_enter Try.func36, Try.ntmps36
      go_wp2_with (first | (go_at_call 46; (with_reducible refine (qa _).mono ?_); rintro e w' ⟨rfl, hw⟩; have hw2 := hw.symm; subst hw2) | (go_at_call 46; (with_reducible refine (qb _).mono ?_); rintro e w' ⟨rfl, hw⟩; have hw2 := hw.symm; subst hw2) | (go_at_call 46; (with_reducible refine (qc _).mono ?_); rintro e w' ⟨rfl, hw⟩; have hw2 := hw.symm; subst hw2))
      go_ret2
      exact ⟨rfl, rfl⟩
    · rw [bdd_f (fun h => hs h.2)] at qc
      rw [if_neg (fun h => hs h.2.2), if_neg (fun h => hs h.2.2)]
      go_enter Try.func36, Try.ntmps36
      go_wp2_with (first | (go_at_call 46; (with_reducible refine (qa _).mono ?_); rintro e w' ⟨rfl, hw⟩; have hw2 := hw.symm; subst hw2) | (go_at_call 46; (with_reducible refine (qb _).mono ?_); rintro e w' ⟨rfl, hw⟩; have hw2 := hw.symm; subst hw2) | (go_at_call 46; (with_reducible refine (qc _).mono ?_); rintro e w' ⟨rfl, hw⟩; have hw2 := hw.symm; subst hw2))
      go_ret2
      exact ⟨rfl, rfl⟩
  · rw [bdd_f hb] at qb
    rw [if_neg (fun h => hb ⟨h.1, h.2.1⟩), if_neg (fun h => hb ⟨h.1, h.2.1⟩)]
    clear hb
    go_enter Try.func36, Try.ntmps36
    go_wp2_with (first | (go_at_call 46; (with_reducible refine (qa _).mono ?_); rintro e w' ⟨rfl, hw⟩; have hw2 := hw.symm; subst hw2) | (go_at_call 46; (with_reducible refine (qb _).mono ?_); rintro e w' ⟨rfl, hw⟩; have hw2 := hw.symm; subst hw2))
    go_ret2
    exact ⟨rfl, rfl⟩

theorem times_s (c d m : Nat) (w : World) (h0 : 0 < c) (h1 : c ≤ 1099511627776) (h2 : d ≤ 11) (hm : c * d = m) : Calls Try.prog 35 #[.int .i64 (c : Int), .int .i64 (d : Int)] w fun e w' => e = .returned (.tuple #[.int .i64 (if m ≤ 1099511627776 then m else 0), .int .i64 (if m ≤ 1099511627776 then 0 else 2)]) ∧ w' = w := by
  have qa := fun w => bounded_s (c : Int) w
  rw [bdd_t ⟨by omega, by omega⟩] at qa
  have qb := fun w => bounded_s (d : Int) w
  rw [bdd_t ⟨by omega, by omega⟩] at qb
  have c0 : (0 : Int) < (c : Int) := by omega
  have d0 : (0 : Int) ≤ (d : Int) := by omega
  have e0 : ((c : Int) == 0) = false := by simp; omega
  have hmb : m ≤ 11 * 1099511627776 := by
    rw [← hm]
    calc c * d ≤ 1099511627776 * 11 := Nat.mul_le_mul h1 h2
      _ = 11 * 1099511627776 := by omega
  have m1 : (c : Int) * (d : Int) = (m : Int) := by rw [← hm]; simp
  have m2 : IntKind.i64.wrap (m : Int) = (m : Int) := IntWalk.i64_in _ (by omega)
  have hq : (m ≤ 1099511627776) ↔ ¬ (1099511627776 : Int) / (c : Int) < (d : Int) := by
    rw [Int.not_lt, Int.le_ediv_iff_mul_le c0, Int.mul_comm, m1]
    omega
  have hq0 : (0 : Int) ≤ (1099511627776 : Int) / (c : Int) := Int.ediv_nonneg (by omega) (by omega)
  have hq1 : (1099511627776 : Int) / (c : Int) ≤ 1099511627776 := Int.ediv_le_self _ (by omega)
  clear hm
  by_cases hs : m ≤ 1099511627776
  · have j0 := hq.1 hs
    rw [if_pos hs, if_pos hs]
    clear hq
    go_enter Try.func35, Try.ntmps35
    go_wp2_with (first | (go_at_call 46; (with_reducible refine (qa _).mono ?_); rintro e w' ⟨rfl, hw⟩; have hw2 := hw.symm; subst hw2) | (go_at_call 46; (with_reducible refine (qb _).mono ?_); rintro e w' ⟨rfl, hw⟩; have hw2 := hw.symm; subst hw2))
    go_ret2
    exact ⟨rfl, rfl⟩
  · have j0 : (1099511627776 : Int) / (c : Int) < (d : Int) := Classical.byContradiction (fun h => hs (hq.2 h))
    rw [if_neg hs, if_neg hs]
    clear hq
    go_enter Try.func35, Try.ntmps35
    go_wp2_with (first | (go_at_call 46; (with_reducible refine (qa _).mono ?_); rintro e w' ⟨rfl, hw⟩; have hw2 := hw.symm; subst hw2) | (go_at_call 46; (with_reducible refine (qb _).mono ?_); rintro e w' ⟨rfl, hw⟩; have hw2 := hw.symm; subst hw2))
    go_ret2
    exact ⟨rfl, rfl⟩

theorem cok_cons {s x : Int} {r : List Int} (hs : 0 ≤ s) : cok s (x :: r) = (decide (0 ≤ x ∧ x ≤ 1099511627776 ∧ s + x ≤ 1099511627776) && cok (s + x) r) := by
  by_cases h : 0 ≤ x ∧ x ≤ 1099511627776 ∧ s + x ≤ 1099511627776
  · rw [cok_good h, decide_eq_true h]
    rfl
  · rw [cok_bad h, decide_eq_false h]
    rfl
set_option maxHeartbeats 1000000 in
theorem rsum_w (a : Option Addr) (xs : List Int) (cap : Nat) (w : World) (ha : Row .i64 w a xs) (hl : xs.length ≤ 9223372036854775807) : Calls Try.prog 45 #[.slice a xs.length cap] w fun e w' => e = .returned (.tuple #[.int .i64 (if cok 0 xs = true then xs.sum else 0), .int .i64 (if cok 0 xs = true then 0 else 2)]) ∧ Below w.heap.size w w' := by
  obtain ⟨Z1, hZ1⟩ : ∃ Z, (if cok 0 xs = true then xs.sum else 0) = Z := ⟨_, rfl⟩
  obtain ⟨Z2, hZ2⟩ : ∃ Z, (if cok 0 xs = true then (0 : Int) else 2) = Z := ⟨_, rfl⟩
  rw [hZ1, hZ2]
  have HZ1 := Lib.hid hZ1
  have HZ2 := Lib.hid hZ2
  clear hZ1 hZ2
  go_enter Try.func45, Try.ntmps45
  go_wp2
  go_loopw [4, 5] (fun vn vi wr => ∃ (k : Nat) (s : Int), k ≤ xs.length ∧ vi = .int .i64 (k : Int) ∧ vn = .int .i64 s ∧ 0 ≤ s ∧ s ≤ 1099511627776 ∧ Hid (cok 0 xs = cok s (xs.drop k)) ∧ Hid (xs.sum = s + (xs.drop k).sum) ∧ Below w.heap.size w wr) (fun _ vi _ => xs.length - (intOf vi).toNat)
  case atStart => exact ⟨0, 0, by omega, rfl, rfl, by omega, by omega, Lib.hid rfl, Lib.hid (by simp), Below.refl _ _⟩
  case round =>
    obtain ⟨k, s, hk, rfl, rfl, s0, s1, HC, HS, hB⟩ := hrel
    by_cases hlt : k < xs.length
    · have i0 : (0 : Int) ≤ (k : Int) := by omega
      have i1 : (k : Int) < (xs.length : Int) := by omega
      obtain ⟨b1, o1, rfl, hb1, hc1⟩ := ha.at hlt
      obtain ⟨x, hx1⟩ : ∃ x, xs.getD k 0 = x := ⟨_, rfl⟩
      have c1 : wr.cell? ⟨b1, o1 + k, none⟩ = some (.int .i64 x) := by
        have := hc1 k hlt
        rw [hx1] at this
        exact (hB.cell (p := ⟨b1, o1 + k, none⟩) hb1).trans this
      have HX1 := Lib.hid hx1
      clear hc1 hx1
      have HD := Lib.hid (drop_cons' hlt HX1.out)
      have q := fun w => plus_s s x w s0 s1
      by_cases hok : 0 ≤ x ∧ x ≤ 1099511627776 ∧ s + x ≤ 1099511627776
      · rw [if_pos hok, if_pos hok] at q
        have HC2 : Hid (cok 0 xs = cok (s + x) (xs.drop (k + 1))) := Lib.hid (by rw [HC.out, HD.out, cok_good hok])
        have HS2 : Hid (xs.sum = (s + x) + (xs.drop (k + 1)).sum) := Lib.hid (by rw [HS.out, HD.out, List.sum_cons]; omega)
        obtain ⟨x0, x1, x2⟩ := hok
        go_wp2_with (go_at_call 36; (with_reducible refine (q _).mono ?_); rintro e w' ⟨rfl, hw⟩; have hw2 := hw.symm; subst hw2)
        go_roundw
        case rel => exact ⟨k + 1, s + x, by omega, by go_num, rfl, by omega, by omega, HC2, HS2, hB⟩
        case measure => go_light; simp [intOf] <;> omega
      · rw [if_neg hok, if_neg hok] at q
        have HC2 : Hid (cok 0 xs = false) := Lib.hid (by rw [HC.out, HD.out, cok_bad hok])
        clear hok
        go_wp2_with (go_at_call 36; (with_reducible refine (q _).mono ?_); rintro e w' ⟨rfl, hw⟩; have hw2 := hw.symm; subst hw2)
        go_ret2
        exact ⟨by rw [← HZ1.out, ← HZ2.out, HC2.out]; rfl, hB⟩
    · have e : k = xs.length := by omega
      have HE : Hid (cok 0 xs = true ∧ xs.sum = s) := Lib.hid (by
        have h1 := HC.out
        have h2 := HS.out
        rw [e, List.drop_length] at h1 h2
        refine ⟨h1, ?_⟩
        rw [h2]
        simp)
      clear e
      go_wp2
      go_ret2
      exact ⟨by rw [← HZ1.out, ← HZ2.out, HE.out.1, HE.out.2]; rfl, hB⟩

theorem rchecked_w (a : Option Addr) (xs : List Int) (cap : Nat) (w : World) (ha : Row .i64 w a xs) (hl : xs.length ≤ 9223372036854775807) : Calls Try.prog 34 #[.slice a xs.length cap] w fun e w' => e = .returned (.int .i64 (cchk xs)) ∧ Below w.heap.size w w' := by
  have q := fun W (hW : Row .i64 W a xs) => rsum_w a xs cap W hW hl
  by_cases h : 256 < xs.length
  · have E := Lib.hid (show cchk xs = 6 by unfold cchk; rw [if_pos h])
    have j0 : (256 : Int) < (xs.length : Int) := by omega
    clear q
    go_enter Try.func34, Try.ntmps34
    go_wp2
    go_ret
    exact ⟨by rw [E.out]; rfl, Below.refl _ _⟩
  · have E := Lib.hid (show cchk xs = (if cok 0 xs = true then 0 else 2) by unfold cchk; rw [if_neg h])
    have j0 : ¬ (256 : Int) < (xs.length : Int) := by omega
    generalize (if cok 0 xs = true then (0 : Int) else 2) = z at q E
    generalize (if cok 0 xs = true then xs.sum else 0) = y at q
    go_enter Try.func34, Try.ntmps34
    go_wp2_with (go_at_call 45; (with_reducible refine (q _ ha).mono ?_); rintro e w1 ⟨rfl, hb⟩)
    go_ret
    exact ⟨by rw [E.out]; rfl, hb⟩

set_option maxHeartbeats 1000000 in
theorem rmost_w (a : Option Addr) (xs : List Int) (cap : Nat) (w : World) (ha : Row .i64 w a xs) (hl : xs.length ≤ 9223372036854775807) : Calls Try.prog 18 #[.slice a xs.length cap] w fun e w' => e = .returned (.tuple #[.int .i64 (rMost2 xs).1, .int .i64 (rMost2 xs).2]) ∧ Below w.heap.size w w' := by
  have qc := fun W (hW : Row .i64 W a xs) => rcheck_w a xs cap W hW hl
  by_cases h : rChk2 xs = 0
  · have E := Lib.hid (show rMost2 xs = (mst xs, 0) by unfold rMost2; rw [if_neg (by simp [h])])
    rw [h] at qc
    clear h
    go_enter Try.func18, Try.ntmps18
    go_wp2_with (first | (go_at_call 22; (with_reducible refine (qc _ ha).mono ?_); rintro e w1 ⟨rfl, hb1⟩; replace ha := ha.later hb1))
    clear qc
    go_loopw [5, 6] (fun vm vi wr => ∃ (k : Nat) (m : Int), vi = .int .i64 (k : Int) ∧ vm = .int .i64 m ∧ k ≤ xs.length ∧ Hid (m = mst (xs.take k)) ∧ Below w1.heap.size w1 wr ∧ Below w.heap.size w wr) (fun _ vi _ => xs.length - (intOf vi).toNat)
    case atStart => exact ⟨0, 0, rfl, rfl, Nat.zero_le _, Lib.hid (by simp [mst]), Below.refl _ _, hb1⟩
    case round =>
      clear hb1
      obtain ⟨k, m, rfl, rfl, hk, HM, hB, hBw⟩ := hrel
      by_cases hlt : k < xs.length
      · have i0 : (0 : Int) ≤ (k : Int) := by omega
        have i1 : (k : Int) < (xs.length : Int) := by omega
        obtain ⟨b1, o1, rfl, hb1, hc1⟩ := ha.at hlt
        obtain ⟨x, hx1⟩ : ∃ x, xs.getD k 0 = x := ⟨_, rfl⟩
        have c1 : wr.cell? ⟨b1, o1 + k, none⟩ = some (.int .i64 x) := by
          have := hc1 k hlt
          rw [hx1] at this
          exact (hB.cell (p := ⟨b1, o1 + k, none⟩) hb1).trans this
        have HX1 := Lib.hid hx1
        clear hc1 hx1
        have HM2 := Lib.hid (show mst (xs.take (k + 1)) = max m x by rw [take_snoc_d hlt HX1.out, mst_snoc, HM.out])
        by_cases hmx : m < x
        · go_wp2
          all_goals
            go_roundw
            case rel => exact ⟨k + 1, x, by go_num, rfl, by omega, Lib.hid (by rw [HM2.out]; omega), hB, hBw⟩
            case measure => go_light; simp [intOf] <;> omega
        · go_wp2
          all_goals
            go_roundw
            case rel => exact ⟨k + 1, m, by go_num, by first | rfl | (have e : m = x := by omega
                                                                      rw [e]), by omega, Lib.hid (by rw [HM2.out]; omega), hB, hBw⟩
            case measure => go_light; simp [intOf] <;> omega
      · have e : k = xs.length := by omega
        have HE : Hid (mst xs = m) := Lib.hid (by
          have h2 := HM.out
          rw [e, List.take_length] at h2
          exact h2.symm)
        clear e
        go_wp2
        go_ret2
        exact ⟨by rw [E.out, HE.out]; rfl, hBw⟩
  · have E := Lib.hid (show rMost2 xs = (0, rChk2 xs) by unfold rMost2; rw [if_pos h])
    generalize rChk2 xs = c at qc E h
    have j0 : (c != 0) = true := by simpa using h
    go_enter Try.func18, Try.ntmps18
    go_wp2_with (first | (go_at_call 22; (with_reducible refine (qc _ ha).mono ?_); rintro e w1 ⟨rfl, hb1⟩; replace ha := ha.later hb1))
    go_ret2
    exact ⟨by rw [E.out]; rfl, hb1⟩

set_option maxRecDepth 100000 in
set_option maxHeartbeats 4000000 in
theorem rtotal_1 (a b : Option Addr) (l D : List Nat) (ca cb : Nat) (w : World) (ha : Row .i64 w a (ints l)) (hb : Row .i64 w b (ints D)) (hl : l.length ≤ 256) (hm : D.length ≤ 256) (hs : l.sum ≤ 1099511627776) (hd : ∀ d ∈ D, d ≤ 11)
    (qc : ∀ W, Row .i64 W b (ints D) → Calls Try.prog 22 #[.slice b D.length cb] W fun e w' => e = .returned (.int .i64 0) ∧ Below W.heap.size W w')
    (qd : ∀ W, Row .i64 W a (ints l) → Calls Try.prog 34 #[.slice a l.length ca] W fun e w' => e = .returned (.int .i64 0) ∧ Below W.heap.size W w') :
    Calls Try.prog 20 #[.slice a l.length ca, .slice b D.length cb] w fun e w' => e = .returned (if covB l D = true then (if 1099511627776 < totL l D then .tuple #[.int .i64 0, .int .i64 2] else .tuple #[.int .i64 (totL l D : Nat), .int .i64 0]) else .tuple #[.int .i64 0, .int .i64 7]) ∧ Below w.heap.size w w' := by
  obtain ⟨Z, hZ⟩ : ∃ Z, (if covB l D = true then (if 1099511627776 < totL l D then Value.tuple #[.int .i64 0, .int .i64 2] else .tuple #[.int .i64 (totL l D : Nat), .int .i64 0]) else .tuple #[.int .i64 0, .int .i64 7]) = Z := ⟨_, rfl⟩
  rw [hZ]
  have HZ := Lib.hid hZ
  have HSU := Lib.hid hs
  have HDD := Lib.hid hd
  clear hZ hs hd
  go_enter Try.func20, Try.ntmps20
  go_wp2_with (first | (go_at_call 22; (with_reducible refine (qc _ hb).mono ?_); rintro e w1 ⟨rfl, hb1⟩; replace ha := ha.later hb1; replace hb := hb.later hb1) | (go_at_call 34; (with_reducible refine (qd _ ha).mono ?_); rintro e w2 ⟨rfl, hb2⟩; replace ha := ha.later hb2; replace hb := hb.later hb2))
  have hB0 : Below w.heap.size w w2 := hb1.trans (hb2.mono hb1.size)
  clear hb1 hb2 qc qd
  go_loopw [6, 7] (fun ve vi wr => ∃ (k : Nat) (z : Int), vi = .int .i64 (k : Int) ∧ ve = .int .i64 z ∧ k ≤ l.length ∧ (z = 0 ∨ z = 7) ∧ Hid (z = 0 → ∀ s c : Nat, s < k → l[s]? = some c → 0 < c → ∃ d, D[s]? = some d ∧ 0 < d) ∧ Hid (z = 7 → covB l D = false) ∧ Below w.heap.size w wr ∧ Below w2.heap.size w2 wr) (fun _ vi _ => l.length - (intOf vi).toNat)
  case atStart => exact ⟨0, 0, rfl, rfl, Nat.zero_le _, .inl rfl, Lib.hid (fun _ s c h => absurd h (Nat.not_lt_zero _)), Lib.hid (fun h => by simp at h), hB0, Below.refl _ _⟩
  case round =>
    clear hB0
    obtain ⟨k, z, rfl, rfl, hk, hz, HC, HF, hB, hB2⟩ := hrel
    rcases hz with rfl | rfl
    · by_cases hlt : k < l.length
      · have hltn := hlt
        obtain ⟨ab, ao, rfl, hab, hac⟩ := ha.at (i := k) (by rw [ints_length]; exact hlt)
        obtain ⟨c, hc⟩ : ∃ c, l[k] = c := ⟨_, rfl⟩
        have c1 : wr.cell? ⟨ab, ao + k, none⟩ = some (.int .i64 (c : Int)) := by
          have := hac k (by rw [ints_length]; exact hlt)
          rw [ints_at hlt, hc] at this
          exact (hB2.cell (p := ⟨ab, ao + k, none⟩) hab).trans this
        have hlk : l[k]? = some c := by rw [List.getElem?_eq_getElem hlt, hc]
        have HLK := Lib.hid hlk
        have i0 : (0 : Int) ≤ (k : Int) := by omega
        have i1 : (k : Int) < (l.length : Int) := by omega
        clear hac hc hlk
        by_cases h0 : 0 < c
        · have j0 : (0 : Int) < (c : Int) := by omega
          by_cases hkd : k < D.length
          · have hkd0 := hkd
            obtain ⟨bb, bo, rfl, hbb, hbc⟩ := hb.at (i := k) (by rw [ints_length]; exact hkd)
            obtain ⟨d, hd⟩ : ∃ d, D[k] = d := ⟨_, rfl⟩
            have c2 : wr.cell? ⟨bb, bo + k, none⟩ = some (.int .i64 (d : Int)) := by
              have := hbc k (by rw [ints_length]; exact hkd)
              rw [ints_at hkd, hd] at this
              exact (hB2.cell (p := ⟨bb, bo + k, none⟩) hbb).trans this
            have hdk : D[k]? = some d := by rw [List.getElem?_eq_getElem hkd, hd]
            have HDK := Lib.hid hdk
            have k1 : (k : Int) < (D.length : Int) := by omega
            have k2 : ¬ (D.length : Int) ≤ (k : Int) := by omega
            have k3 : ¬ D.length ≤ k := by omega
            clear hbc hd
            clear hdk
            by_cases hd0 : d = 0
            · have j1 : ((d : Int) == 0) = true := by simp [hd0]
              have E := Lib.hid (covB_bad (D := D) HLK.out h0 (fun d' h => by rw [HDK.out] at h; cases h; exact hd0))
              clear hd0
              go_wp2
              go_roundw
              case rel => exact ⟨k + 1, 7, by go_num, rfl, by omega, .inr rfl, Lib.hid (fun h => by simp at h), Lib.hid (fun _ => E.out), hB, hB2⟩
              case measure => go_light; simp [intOf] <;> omega
            · have j1 : ((d : Int) == 0) = false := by simp [hd0]
              have HD0 := Lib.hid hd0
              clear hd0
              go_wp2
              go_roundw
              case rel =>
                refine ⟨k + 1, 0, by go_num, rfl, by omega, .inl rfl, Lib.hid ?_, Lib.hid (fun h => by simp at h), hB, hB2⟩
                intro _ s c' h1 h2 h3
                by_cases e : s < k
                · exact HC.out rfl s c' e h2 h3
                · obtain rfl : s = k := by omega
                  exact ⟨d, HDK.out, by have := HD0.out; omega⟩
              case measure => go_light; simp [intOf] <;> omega
          · have k2 : (D.length : Int) ≤ (k : Int) := by omega
            have k3 : D.length ≤ k := by omega
            have E := Lib.hid (covB_bad (D := D) HLK.out h0 (fun d' h => by have := (List.getElem?_eq_some_iff.1 h).1; omega))
            go_wp2
            go_roundw
            case rel => exact ⟨k + 1, 7, by go_num, rfl, by omega, .inr rfl, Lib.hid (fun h => by simp at h), Lib.hid (fun _ => E.out), hB, hB2⟩
            case measure => go_light; simp [intOf] <;> omega
        · have j0 : ¬ (0 : Int) < (c : Int) := by omega
          go_wp2
          go_roundw
          case rel =>
            refine ⟨k + 1, 0, by go_num, rfl, by omega, .inl rfl, Lib.hid ?_, Lib.hid (fun h => by simp at h), hB, hB2⟩
            intro _ s c' h1 h2 h3
            by_cases e : s < k
            · exact HC.out rfl s c' e h2 h3
            · obtain rfl : s = k := by omega
              rw [HLK.out] at h2
              cases h2
              exact absurd h3 h0
          case measure => go_light; simp [intOf] <;> omega
      · have e : k = l.length := by omega
        have HCC : Hid (∀ s c : Nat, l[s]? = some c → 0 < c → ∃ d, D[s]? = some d ∧ 0 < d) := Lib.hid (fun s c h1 h2 => HC.out rfl s c (by have := (List.getElem?_eq_some_iff.1 h1).1; omega) h1 h2)
        have HCV : Hid (covB l D = true) := Lib.hid (covB_of HCC.out)
        clear e HC HF
        obtain ⟨V, hV⟩ : ∃ V, V = wr := ⟨_, rfl⟩
        subst hV
        go_wp2
        go_loopw [8, 9] (fun vb vi wr => ∃ (k t : Nat), vi = .int .i64 (k : Int) ∧ vb = .int .i64 (t : Int) ∧ k ≤ l.length ∧ t ≤ 1099511627776 ∧ Hid (t = totL (l.take k) D) ∧ Below w.heap.size w wr ∧ Below w2.heap.size w2 wr) (fun _ vi _ => l.length - (intOf vi).toNat)
        case atStart => exact ⟨0, 0, rfl, rfl, Nat.zero_le _, Nat.zero_le _, Lib.hid (by simp [totL]), hB, hB2⟩
        case round =>
          clear hk hlt hB hB2
          obtain ⟨k, t, rfl, rfl, hk, ht, HT, hB, hB2⟩ := hrel
          by_cases hlt : k < l.length
          · have hltn := hlt
            obtain ⟨ab, ao, rfl, hab, hac⟩ := ha.at (i := k) (by rw [ints_length]; exact hlt)
            obtain ⟨c, hc⟩ : ∃ c, l[k] = c := ⟨_, rfl⟩
            have c1 : wr.cell? ⟨ab, ao + k, none⟩ = some (.int .i64 (c : Int)) := by
              have := hac k (by rw [ints_length]; exact hlt)
              rw [ints_at hlt, hc] at this
              exact (hB2.cell (p := ⟨ab, ao + k, none⟩) hab).trans this
            have hlk : l[k]? = some c := by rw [List.getElem?_eq_getElem hlt, hc]
            have HLK := Lib.hid hlk
            have i0 : (0 : Int) ≤ (k : Int) := by omega
            have i1 : (k : Int) < (l.length : Int) := by omega
            clear hac hc hlk
            have HST := Lib.hid (totL_take l D k c HLK.out)
            have hcs : c ≤ 1099511627776 := Nat.le_trans (mem_le_sum (List.mem_of_getElem? HLK.out)) HSU.out
            have t0 : (0 : Int) ≤ (t : Int) := by omega
            have t1 : (t : Int) ≤ 1099511627776 := by omega
            by_cases h0 : c = 0
            · have j0 : ((c : Int) == 0) = true := by simp [h0]
              have HT2 : Hid (t = totL (l.take (k + 1)) D) := Lib.hid (by rw [HST.out, ← HT.out, h0]; omega)
              clear h0
              go_wp2
              go_roundw
              case rel => exact ⟨k + 1, t, by go_num, rfl, by omega, ht, HT2, hB, hB2⟩
              case measure => go_light; simp [intOf] <;> omega
            · have j0 : ((c : Int) == 0) = false := by simp [h0]
              have hkd : k < D.length := by
                obtain ⟨d, h1, _⟩ := HCC.out k c HLK.out (by omega)
                exact (List.getElem?_eq_some_iff.1 h1).1
              have hkd0 := hkd
              obtain ⟨bb, bo, rfl, hbb, hbc⟩ := hb.at (i := k) (by rw [ints_length]; exact hkd)
              obtain ⟨d, hd⟩ : ∃ d, D[k] = d := ⟨_, rfl⟩
              have c2 : wr.cell? ⟨bb, bo + k, none⟩ = some (.int .i64 (d : Int)) := by
                have := hbc k (by rw [ints_length]; exact hkd)
                rw [ints_at hkd, hd] at this
                exact (hB2.cell (p := ⟨bb, bo + k, none⟩) hbb).trans this
              have hdk : D[k]? = some d := by rw [List.getElem?_eq_getElem hkd, hd]
              have HDK := Lib.hid hdk
              have k1 : (k : Int) < (D.length : Int) := by omega
              have k2 : ¬ (D.length : Int) ≤ (k : Int) := by omega
              have k3 : ¬ D.length ≤ k := by omega
              clear hbc hd
              have hd11 : d ≤ 11 := HDD.out d (List.mem_of_getElem? hdk)
              obtain ⟨m, hm2⟩ : ∃ m, c * d = m := ⟨_, rfl⟩
              have HTM : Hid (totL (l.take (k + 1)) D = t + m) := Lib.hid (by
                rw [HST.out, ← HT.out, HDK.out, ← hm2]
                rfl)
              have HLE := Lib.hid (totL_mono l D (k + 1))
              have q1 := fun w => times_s c d m w (by omega) hcs hd11 hm2
              clear hm2 hdk h0
              by_cases hs1 : m ≤ 1099511627776
              · rw [if_pos hs1, if_pos hs1] at q1
                have q2 := fun w => plus_s (t : Int) (m : Int) w t0 t1
                by_cases hs2 : t + m ≤ 1099511627776
                · rw [if_pos ⟨by omega, by omega, by omega⟩, if_pos ⟨by omega, by omega, by omega⟩] at q2
                  go_wp2
                  go_quiet ((go_at_call 35; exact Calls.quiet_of_same (q1 _)))
                  go_wp2_with ((go_at_call 36; (with_reducible refine (q2 _).mono ?_); rintro e w' ⟨rfl, hw⟩; have hw2 := hw.symm; subst hw2))
                  go_roundw
                  case rel => exact ⟨k + 1, t + m, by go_num, by go_num, by omega, by omega, Lib.hid HTM.out.symm, below_drewN hB _, below_drewN hB2 _⟩
                  case measure => go_light; simp [intOf] <;> omega
                · rw [if_neg (fun h => hs2 (by omega)), if_neg (fun h => hs2 (by omega))] at q2
                  have E : Hid (1099511627776 < totL l D) := Lib.hid (by have := HTM.out; have := HLE.out; omega)
                  go_wp2
                  go_quiet ((go_at_call 35; exact Calls.quiet_of_same (q1 _)))
                  go_wp2_with ((go_at_call 36; (with_reducible refine (q2 _).mono ?_); rintro e w' ⟨rfl, hw⟩; have hw2 := hw.symm; subst hw2))
                  go_ret2
                  exact ⟨by rw [← HZ.out, if_pos HCV.out, if_pos E.out]; rfl, below_drewN hB _⟩
              · rw [if_neg hs1, if_neg hs1] at q1
                have E : Hid (1099511627776 < totL l D) := Lib.hid (by have := HTM.out; have := HLE.out; omega)
                go_wp2
                go_quiet ((go_at_call 35; exact Calls.quiet_of_same (q1 _)))
                go_wp2
                go_ret2
                exact ⟨by rw [← HZ.out, if_pos HCV.out, if_pos E.out]; rfl, below_drewN hB _⟩
          · have e : k = l.length := by omega
            have HTE : Hid (totL l D = t) := Lib.hid (by have := HT.out; rw [e, List.take_length] at this; exact this.symm)
            clear e
            go_wp2
            go_ret2
            exact ⟨by rw [← HZ.out, if_pos HCV.out, HTE.out, if_neg (by omega)]; rfl, hB⟩
    · have HF2 := Lib.hid (HF.out rfl)
      by_cases hlt : k < l.length
      · have i1 : (k : Int) < (l.length : Int) := by omega
        go_wp2
        go_ret2
        exact ⟨by rw [← HZ.out, if_neg (by rw [HF2.out]; simp)]; rfl, hB⟩
      · have i1 : ¬ (k : Int) < (l.length : Int) := by omega
        go_wp2
        go_ret2
        exact ⟨by rw [← HZ.out, if_neg (by rw [HF2.out]; simp)]; rfl, hB⟩

theorem rtotal_w (a b : Option Addr) (cs xs : List Int) (ca cb : Nat) (w : World) (ha : Row .i64 w a cs) (hb : Row .i64 w b xs) (hl : cs.length ≤ 9223372036854775807) (hm : xs.length ≤ 9223372036854775807) : Calls Try.prog 20 #[.slice a cs.length ca, .slice b xs.length cb] w fun e w' => e = .returned (.tuple #[.int .i64 (rTotal cs xs).1, .int .i64 (rTotal cs xs).2]) ∧ Below w.heap.size w w' := by
  have qc := fun W (hW : Row .i64 W b xs) => rcheck_w b xs cb W hW hm
  have qd := fun W (hW : Row .i64 W a cs) => rchecked_w a cs ca W hW hl
  by_cases h : rChk2 xs = 0
  · rw [h] at qc
    by_cases h2 : cchk cs = 0
    · rw [h2] at qd
      obtain ⟨r1, r2, _⟩ := rRoom_zero (xs := xs) (by
        rcases Classical.em ((rRoom xs).2 = 0) with h0 | h0
        · exact h0
        · unfold rChk2 at h
          rw [if_pos h0] at h
          exact absurd h h0)
      obtain ⟨s1, s2, s3, s4⟩ := cchk_ok h2
      have e1 : ints (nn cs) = cs := nn_ints cs s2
      have e2 : ints (nn xs) = xs := by
        refine nn_ints xs ?_
        unfold okR at r2
        unfold rng
        rw [List.all_eq_true] at r2 ⊢
        intro x hx
        have := r2 x hx
        simp at this ⊢
        omega
      have hE : rTotal cs xs = if covB (nn cs) (nn xs) = true then (if 1099511627776 < totL (nn cs) (nn xs) then (0, 2) else (((totL (nn cs) (nn xs) : Nat) : Int), 0)) else (0, 7) := by
        unfold rTotal okC
        rw [if_neg (by simp [h]), if_neg (by simp [h2])]
      have hd : ∀ d ∈ nn xs, d ≤ 11 := by
        intro d hd
        obtain ⟨x, hx, rfl⟩ := List.mem_map.1 hd
        unfold okR at r2
        rw [List.all_eq_true] at r2
        have := r2 x hx
        simp at this
        omega
      have hs : (nn cs).sum ≤ 1099511627776 := by
        rw [← e1, ints_sum] at s3
        omega
      have l1 := nn_length cs
      have l2 := nn_length xs
      rw [hE]
      generalize nn cs = l at e1 hE hs l1
      generalize nn xs = D at e2 hE hd l2
      subst e1
      subst e2
      have := rtotal_1 a b l D ca cb w ha hb (by omega) (by omega) hs hd (by rw [ints_length] at qc; exact qc) (by rw [ints_length] at qd; exact qd)
      rw [ints_length, ints_length]
      refine this.mono ?_
      rintro e w' ⟨rfl, hb⟩
      refine ⟨?_, hb⟩
      split
      · split <;> rfl
      · rfl
    · have E := Lib.hid (show rTotal cs xs = (0, cchk cs) by unfold rTotal; rw [if_neg (by simp [h]), if_pos h2])
      generalize cchk cs = c at qd E h2
      have j0 : (c != 0) = true := by simpa using h2
      have j1 : (c == 0) = false := by simpa using h2
      clear h
      by_cases hz : 0 < cs.length
      · have hz1 : (0 : Int) < (cs.length : Int) := by omega
        go_enter Try.func20, Try.ntmps20
        go_wp2_with (first | (go_at_call 22; (with_reducible refine (qc _ hb).mono ?_); rintro e w1 ⟨rfl, hb1⟩; replace ha := ha.later hb1; replace hb := hb.later hb1) | (go_at_call 34; (with_reducible refine (qd _ ha).mono ?_); rintro e w2 ⟨rfl, hb2⟩; replace ha := ha.later hb2; replace hb := hb.later hb2))
        refine wp_loop_rounds 1 ?_
        rw [rounds_succ]
        go_wp2
        go_ret2
        exact ⟨by rw [E.out]; rfl, hb1.trans (hb2.mono hb1.size)⟩
      · have hz1 : ¬ (0 : Int) < (cs.length : Int) := by omega
        go_enter Try.func20, Try.ntmps20
        go_wp2_with (first | (go_at_call 22; (with_reducible refine (qc _ hb).mono ?_); rintro e w1 ⟨rfl, hb1⟩; replace ha := ha.later hb1; replace hb := hb.later hb1) | (go_at_call 34; (with_reducible refine (qd _ ha).mono ?_); rintro e w2 ⟨rfl, hb2⟩; replace ha := ha.later hb2; replace hb := hb.later hb2))
        refine wp_loop_rounds 1 ?_
        rw [rounds_succ]
        go_wp2
        go_ret2
        exact ⟨by rw [E.out]; rfl, hb1.trans (hb2.mono hb1.size)⟩
  · have E := Lib.hid (show rTotal cs xs = (0, rChk2 xs) by unfold rTotal; rw [if_pos h])
    generalize rChk2 xs = c at qc E h
    have j0 : (c != 0) = true := by simpa using h
    have j1 : (c == 0) = false := by simpa using h
    by_cases hz : 0 < cs.length
    · have hz1 : (0 : Int) < (cs.length : Int) := by omega
      go_enter Try.func20, Try.ntmps20
      go_wp2_with (first | (go_at_call 22; (with_reducible refine (qc _ hb).mono ?_); rintro e w1 ⟨rfl, hb1⟩; replace ha := ha.later hb1; replace hb := hb.later hb1))
      refine wp_loop_rounds 1 ?_
      rw [rounds_succ]
      go_wp2
      go_ret2
      exact ⟨by rw [E.out]; rfl, hb1⟩
    · have hz1 : ¬ (0 : Int) < (cs.length : Int) := by omega
      go_enter Try.func20, Try.ntmps20
      go_wp2_with (first | (go_at_call 22; (with_reducible refine (qc _ hb).mono ?_); rintro e w1 ⟨rfl, hb1⟩; replace ha := ha.later hb1; replace hb := hb.later hb1))
      refine wp_loop_rounds 1 ?_
      rw [rounds_succ]
      go_wp2
      go_ret2
      exact ⟨by rw [E.out]; rfl, hb1⟩
end Go.Proofs.Ytmfgkimbehkdeaa
