/-
  The greatest length, and totals, of the program, walked.
-/
import Derived.Test.YtmfgkimbehkdeaaRows
import Derived.Test.YtmfgkimbehkdeaaHufAsk
import Derived.Test.YtmfgkimbehkdeaaHufDep
import Derived.Test.YtmfgkimbehkdeaaGBase
import Derived.Deep.Light
import Derived.Shelf.Abstract
import Derived.Shelf.RegionOpen
import Derived.OwnWalkIn
import Derived.TacticsInMore
import Derived.LoopNIn
import Derived.LoopIn
import Derived.IntWalk
namespace Go.Proofs.Ytmfgkimbehkdeaa
open Go.RowKit
set_option linter.unusedSimpArgs false
set_option linter.unusedVariables false
attribute [local go_sem] Oper.semAt_some

theorem most_w (a : Option Addr) (xs : List Int) (cap : Nat) (w : World) (ha : Row .i64 w a xs) (hl : xs.length ≤ 9223372036854775807) : Calls Try.prog 17 #[.slice a xs.length cap] w fun e w' => e = .returned (.tuple #[.int .i64 (rMost2 xs).1, .int .i64 (rMost2 xs).2]) ∧ Below w.heap.size w w' := by
  have qc := fun W (hW : Row .i64 W a xs) => check_w a xs cap W hW hl
  have qm := fun W (hW : Row .i64 W a xs) => coded_w a xs cap W hW hl
  by_cases h : rChk2 xs = 0
  · have E := Lib.hid (show rMost2 xs = (mst xs, 0) by unfold rMost2; rw [if_neg (by simp [h])])
    rw [h] at qc
    clear h
    generalize mst xs = m at qm E
    generalize posN xs = p at qm
    go_enter Try.func17, Try.ntmps17
    go_wp2_with (first | (go_at_call 21; refine (qc _ ha).mono ?_; rintro e w1 ⟨rfl, hb1⟩; replace ha := ha.later hb1) | (go_at_call 32; refine (qm _ ha).mono ?_; rintro e w2 ⟨rfl, hb2⟩))
    go_ret2
    exact ⟨by rw [E.out]; rfl, hb1.trans (hb2.mono hb1.size)⟩
  · have E := Lib.hid (show rMost2 xs = (0, rChk2 xs) by unfold rMost2; rw [if_pos h])
    generalize rChk2 xs = c at qc E h
    have j0 : (c != 0) = true := by simpa using h
    go_enter Try.func17, Try.ntmps17
    go_wp2_with (first | (go_at_call 21; refine (qc _ ha).mono ?_; rintro e w1 ⟨rfl, hb1⟩; replace ha := ha.later hb1))
    go_ret2
    exact ⟨by rw [E.out]; rfl, hb1⟩

set_option maxHeartbeats 2000000 in
theorem total_1 (a b : Option Addr) (l D : List Nat) (ca cb : Nat) (w : World) (ha : Row .i64 w a (ints l)) (hb : Row .i64 w b (ints D)) (hl : l.length ≤ 256) (hm : D.length ≤ 256) (hs : l.sum ≤ 1099511627776) (hd : ∀ d ∈ D, d ≤ 11)
    (qc : ∀ W, Row .i64 W b (ints D) → Calls Try.prog 21 #[.slice b D.length cb] W fun e w' => e = .returned (.int .i64 0) ∧ Below W.heap.size W w')
    (qd : ∀ W, Row .i64 W a (ints l) → Calls Try.prog 33 #[.slice a l.length ca] W fun e w' => e = .returned (.int .i64 0) ∧ Below W.heap.size W w') :
    Calls Try.prog 19 #[.slice a l.length ca, .slice b D.length cb] w fun e w' => e = .returned (if covB l D = true then (if 1099511627776 < totL l D then .tuple #[.int .i64 0, .int .i64 2] else .tuple #[.int .i64 (totL l D : Nat), .int .i64 0]) else .tuple #[.int .i64 0, .int .i64 7]) ∧ Below w.heap.size w w' := by
  obtain ⟨Z, hZ⟩ : ∃ Z, (if covB l D = true then (if 1099511627776 < totL l D then Value.tuple #[.int .i64 0, .int .i64 2] else .tuple #[.int .i64 (totL l D : Nat), .int .i64 0]) else .tuple #[.int .i64 0, .int .i64 7]) = Z := ⟨_, rfl⟩
  rw [hZ]
  have HZ := Lib.hid hZ
  have HSU := Lib.hid hs
  have HDD := Lib.hid hd
  clear hZ hs hd
  go_enter Try.func19, Try.ntmps19
  go_wp2_with (first | (go_at_call 21; refine (qc _ hb).mono ?_; rintro e w1 ⟨rfl, hb1⟩; replace ha := ha.later hb1; replace hb := hb.later hb1) | (go_at_call 33; refine (qd _ ha).mono ?_; rintro e w2 ⟨rfl, hb2⟩; replace ha := ha.later hb2; replace hb := hb.later hb2))
  have hB0 : Below w.heap.size w w2 := hb1.trans (hb2.mono hb1.size)
  clear hb1 hb2 qc qd
  go_loopw [7, 21] (fun vb vi wr => ∃ (k t : Nat), vi = .int .i64 (k : Int) ∧ vb = .int .i64 (t : Int) ∧ k ≤ l.length ∧ t ≤ 12094627905536 ∧ Hid (t = totL (l.take k) D) ∧ Hid (∀ s c : Nat, s < k → l[s]? = some c → 0 < c → ∃ d, D[s]? = some d ∧ 0 < d) ∧ Below w.heap.size w wr ∧ Below w2.heap.size w2 wr) (fun _ vi _ => l.length - (intOf vi).toNat)
  case atStart => exact ⟨0, 0, rfl, rfl, Nat.zero_le _, Nat.zero_le _, Lib.hid (by simp [totL]), Lib.hid (fun s c h => absurd h (Nat.not_lt_zero _)), hB0, Below.refl _ _⟩
  case round =>
    clear hB0
    obtain ⟨k, t, rfl, rfl, hk, ht, HT, HC, hB, hB2⟩ := hrel
    by_cases hlt : k < l.length
    · obtain ⟨ab, ao, rfl, hab, hac⟩ := ha.at (i := k) (by rw [ints_length]; exact hlt)
      obtain ⟨c, hc⟩ : ∃ c, l[k] = c := ⟨_, rfl⟩
      have c1 : wr.cell? ⟨ab, ao + k, none⟩ = some (.int .i64 (c : Int)) := by
        have := hac k (by rw [ints_length]; exact hlt)
        rw [ints_at hlt, hc] at this
        exact (hB2.cell (p := ⟨ab, ao + k, none⟩) hab).trans this
      have hlk : l[k]? = some c := by rw [List.getElem?_eq_getElem hlt, hc]
      have hcs : c ≤ 1099511627776 := Nat.le_trans (mem_le_sum (List.mem_of_getElem? hlk)) HSU.out
      have hst := totL_take l D k c hlk
      rw [← HT.out] at hst
      have htl : totL (l.take (k + 1)) D ≤ 12094627905536 := by
        have h1 := totL_le (l.take (k + 1)) D 11 HDD.out
        have h2 := sum_take_le l (k + 1)
        have h3 := HSU.out
        omega
      rw [hst] at htl
      have HST := Lib.hid hst
      have HLK := Lib.hid hlk
      have i0 : (0 : Int) ≤ (k : Int) := by omega
      have i1 : (k : Int) < (l.length : Int) := by omega
      have t0 : (0 : Int) ≤ (t : Int) := by omega
      have t1 : (t : Int) ≤ 12094627905536 := by omega
      clear hac hc hst hlk
      by_cases h0 : 0 < c
      · have j0 : (0 : Int) < (c : Int) := by omega
        by_cases hkd : k < D.length
        · obtain ⟨bb, bo, rfl, hbb, hbc⟩ := hb.at (i := k) (by rw [ints_length]; exact hkd)
          obtain ⟨d, hd⟩ : ∃ d, D[k] = d := ⟨_, rfl⟩
          have c2 : wr.cell? ⟨bb, bo + k, none⟩ = some (.int .i64 (d : Int)) := by
            have := hbc k (by rw [ints_length]; exact hkd)
            rw [ints_at hkd, hd] at this
            exact (hB2.cell (p := ⟨bb, bo + k, none⟩) hbb).trans this
          have hdk : D[k]? = some d := by rw [List.getElem?_eq_getElem hkd, hd]
          have hd11 : d ≤ 11 := HDD.out d (List.mem_of_getElem? hdk)
          have HDK := Lib.hid hdk
          have k1 : (k : Int) < (D.length : Int) := by omega
          have k2 : ¬ (D.length : Int) ≤ (k : Int) := by omega
          have k3 : ¬ D.length ≤ k := by omega
          clear hbc hd hdk
          by_cases hd0 : d = 0
          · have j1 : ((d : Int) == 0) = true := by simp [hd0]
            have E := Lib.hid (covB_bad (D := D) HLK.out h0 (fun d' h => by rw [HDK.out] at h; cases h; exact hd0))
            clear hd0
            go_wp2
            go_ret2
            exact ⟨by rw [← HZ.out, if_neg (by rw [E.out]; simp)]; rfl, hB⟩
          · have j1 : ((d : Int) == 0) = false := by simp [hd0]
            obtain ⟨m, hm2⟩ : ∃ m, c * d = m := ⟨_, rfl⟩
            have hm3 : t + m ≤ 12094627905536 := by
              rw [HDK.out] at htl
              simp at htl
              rw [hm2] at htl
              exact htl
            have m1 : (c : Int) * (d : Int) = (m : Int) := by rw [← hm2]; simp
            have m2 : IntKind.i64.wrap (m : Int) = (m : Int) := IntWalk.i64_in _ (by omega)
            have m3 : IntKind.i64.wrap ((c : Int) * (d : Int)) = (m : Int) := by rw [m1, m2]
            have HT2 : Hid (t + m = totL (l.take (k + 1)) D) := Lib.hid (by
              rw [HST.out, HDK.out, ← hm2]
              rfl)
            have m0 : (0 : Int) ≤ (m : Int) := by omega
            have m4 : (t : Int) + (m : Int) ≤ 12094627905536 := by omega
            clear hm2 htl
            go_wp2
            go_roundw
            case rel =>
              refine ⟨k + 1, t + m, by go_num, by go_num, by omega, hm3, HT2, Lib.hid ?_, hB, hB2⟩
              intro s c' h1 h2 h3
              by_cases e : s < k
              · exact HC.out s c' e h2 h3
              · obtain rfl : s = k := by omega
                exact ⟨d, HDK.out, by omega⟩
            case measure => go_light; simp [intOf] <;> omega
        · have k2 : (D.length : Int) ≤ (k : Int) := by omega
          have k3 : D.length ≤ k := by omega
          have E := Lib.hid (covB_bad (D := D) HLK.out h0 (fun d' h => by have := (List.getElem?_eq_some_iff.1 h).1; omega))
          go_wp2
          go_ret2
          exact ⟨by rw [← HZ.out, if_neg (by rw [E.out]; simp)]; rfl, hB⟩
      · have j0 : ¬ (0 : Int) < (c : Int) := by omega
        have HT2 : Hid (t = totL (l.take (k + 1)) D) := Lib.hid (by rw [HST.out, show c = 0 by omega]; omega)
        go_wp2
        go_roundw
        case rel =>
          refine ⟨k + 1, t, by go_num, rfl, by omega, ht, HT2, Lib.hid ?_, hB, hB2⟩
          intro s c' h1 h2 h3
          by_cases e : s < k
          · exact HC.out s c' e h2 h3
          · obtain rfl : s = k := by omega
            rw [HLK.out] at h2
            cases h2
            exact absurd h3 h0
        case measure => go_light; simp [intOf] <;> omega
    · have e : k = l.length := by omega
      have HCV : Hid (covB l D = true) := Lib.hid (covB_of (fun s c h1 h2 => HC.out s c (by have := (List.getElem?_eq_some_iff.1 h1).1; omega) h1 h2))
      have HTE : Hid (totL l D = t) := Lib.hid (by have := HT.out; rw [e, List.take_length] at this; exact this.symm)
      clear e
      by_cases h1 : 1099511627776 < t
      · have j0 : (1099511627776 : Int) < (t : Int) := by omega
        go_wp2
        go_ret2
        exact ⟨by rw [← HZ.out, if_pos HCV.out, HTE.out, if_pos h1]; rfl, hB⟩
      · have j0 : ¬ (1099511627776 : Int) < (t : Int) := by omega
        go_wp2
        go_ret2
        exact ⟨by rw [← HZ.out, if_pos HCV.out, HTE.out, if_neg h1]; rfl, hB⟩

theorem total_w (a b : Option Addr) (cs xs : List Int) (ca cb : Nat) (w : World) (ha : Row .i64 w a cs) (hb : Row .i64 w b xs) (hl : cs.length ≤ 9223372036854775807) (hm : xs.length ≤ 9223372036854775807) : Calls Try.prog 19 #[.slice a cs.length ca, .slice b xs.length cb] w fun e w' => e = .returned (.tuple #[.int .i64 (rTotal cs xs).1, .int .i64 (rTotal cs xs).2]) ∧ Below w.heap.size w w' := by
  have qc := fun W (hW : Row .i64 W b xs) => check_w b xs cb W hW hm
  have qd := fun W (hW : Row .i64 W a cs) => check_c a cs ca W hW hl
  by_cases h : rChk2 xs = 0
  · rw [h] at qc
    by_cases h2 : cchk cs = 0
    · rw [h2] at qd
      obtain ⟨r1, r2, _⟩ := rRoom_zero (xs := xs) (by
        rcases Classical.em ((rRoom xs).2 = 0) with h0 | h0
        · exact h0
        · unfold rChk2 at h
          rw [if_pos h0] at h
          exact absurd h h0)
      obtain ⟨s1, s2, s3, s4⟩ := cchk_ok h2
      have e1 : ints (nn cs) = cs := nn_ints cs s2
      have e2 : ints (nn xs) = xs := by
        refine nn_ints xs ?_
        unfold okR at r2
        unfold rng
        rw [List.all_eq_true] at r2 ⊢
        intro x hx
        have := r2 x hx
        simp at this ⊢
        omega
      have hE : rTotal cs xs = if covB (nn cs) (nn xs) = true then (if 1099511627776 < totL (nn cs) (nn xs) then (0, 2) else (((totL (nn cs) (nn xs) : Nat) : Int), 0)) else (0, 7) := by
        unfold rTotal okC
        rw [if_neg (by simp [h]), if_neg (by simp [h2])]
      have hd : ∀ d ∈ nn xs, d ≤ 11 := by
        intro d hd
        obtain ⟨x, hx, rfl⟩ := List.mem_map.1 hd
        unfold okR at r2
        rw [List.all_eq_true] at r2
        have := r2 x hx
        simp at this
        omega
      have hs : (nn cs).sum ≤ 1099511627776 := by
        rw [← e1, ints_sum] at s3
        omega
      have l1 := nn_length cs
      have l2 := nn_length xs
      rw [hE]
      generalize nn cs = l at e1 hE hs l1
      generalize nn xs = D at e2 hE hd l2
      subst e1
      subst e2
      have := total_1 a b l D ca cb w ha hb (by omega) (by omega) hs hd (by rw [ints_length] at qc; exact qc) (by rw [ints_length] at qd; exact qd)
      rw [ints_length, ints_length]
      refine this.mono ?_
      rintro e w' ⟨rfl, hb⟩
      refine ⟨?_, hb⟩
      split
      · split <;> rfl
      · rfl
    · have E := Lib.hid (show rTotal cs xs = (0, cchk cs) by unfold rTotal; rw [if_neg (by simp [h]), if_pos h2])
      generalize cchk cs = c at qd E h2
      have j0 : (c != 0) = true := by simpa using h2
      clear h
      go_enter Try.func19, Try.ntmps19
      go_wp2_with (first | (go_at_call 21; refine (qc _ hb).mono ?_; rintro e w1 ⟨rfl, hb1⟩; replace ha := ha.later hb1; replace hb := hb.later hb1) | (go_at_call 33; refine (qd _ ha).mono ?_; rintro e w2 ⟨rfl, hb2⟩; replace ha := ha.later hb2; replace hb := hb.later hb2))
      go_ret2
      exact ⟨by rw [E.out]; rfl, hb1.trans (hb2.mono hb1.size)⟩
  · have E := Lib.hid (show rTotal cs xs = (0, rChk2 xs) by unfold rTotal; rw [if_pos h])
    generalize rChk2 xs = c at qc E h
    have j0 : (c != 0) = true := by simpa using h
    have j1 : (c == 0) = false := by simpa using h
    go_enter Try.func19, Try.ntmps19
    go_wp2_with (first | (go_at_call 21; refine (qc _ hb).mono ?_; rintro e w1 ⟨rfl, hb1⟩; replace ha := ha.later hb1; replace hb := hb.later hb1))
    go_ret2
    exact ⟨by rw [E.out]; rfl, hb1⟩
end Go.Proofs.Ytmfgkimbehkdeaa
