/-
  Sums of counts and their check, walked.
-/
import Derived.Test.YtmfgkimbehkdeaaRows
import Derived.Test.YtmfgkimbehkdeaaGBase
import Derived.Deep.Light
namespace Go.Proofs.Ytmfgkimbehkdeaa
open Go.RowKit
set_option linter.unusedSimpArgs false
set_option linter.unusedVariables false

/-- Are all numbers, and all partial sums from n on, in the range? -/
def cok : Int → List Int → Bool
  | _, [] => true
  | n, x :: r => decide (0 ≤ x) && decide (x ≤ 1099511627776) && decide (n + x ≤ 1099511627776) && cok (n + x) r
theorem cok_bad {n x : Int} {r : List Int} (h : ¬ (0 ≤ x ∧ x ≤ 1099511627776 ∧ n + x ≤ 1099511627776)) : cok n (x :: r) = false := by
  simp only [cok]
  by_cases a : 0 ≤ x
  · by_cases b : x ≤ 1099511627776
    · have c : ¬ n + x ≤ 1099511627776 := fun c => h ⟨a, b, c⟩
      simp [c]
    · simp [b]
  · simp [a]
theorem cok_good {n x : Int} {r : List Int} (h : 0 ≤ x ∧ x ≤ 1099511627776 ∧ n + x ≤ 1099511627776) : cok n (x :: r) = cok (n + x) r := by
  simp [cok, h]
theorem drop_cons' {xs : List Int} {k : Nat} {d : Int} (h : k < xs.length) (hd : xs.getD k 0 = d) : xs.drop k = d :: xs.drop (k + 1) := by
  rw [List.drop_eq_getElem_cons h]
  simp [h] at hd
  rw [hd]
def cS (xs : List Int) : Int := if cok 0 xs = true then xs.sum else 0
set_option maxHeartbeats 1000000 in
theorem sum_p (a : Option Addr) (xs : List Int) (cap : Nat) (w : World) (ha : Row .i64 w a xs) (hl : xs.length ≤ 9223372036854775807) :
    Calls Try.prog 44 #[.slice a xs.length cap] w fun e w' => e = .returned (.tuple #[.int .i64 (cS xs), .bool (cok 0 xs)]) ∧ Below w.heap.size w w' := by
  go_enter Try.func44, Try.ntmps44
  go_wp2
  go_loopw [2, 8] (fun n i wr => ∃ (k : Nat) (s : Int), k ≤ xs.length ∧ i = .int .i64 k ∧ n = .int .i64 s ∧ 0 ≤ s ∧ s ≤ 1099511627776 ∧ Hid (cok 0 xs = cok s (xs.drop k)) ∧ Hid (xs.sum = s + (xs.drop k).sum) ∧ Below w.heap.size w wr) (fun _ i _ => xs.length - (intOf i).toNat)
  case atStart => exact ⟨0, 0, by omega, rfl, rfl, by omega, by omega, rfl, by simp [Hid], Below.refl _ _⟩
  case round =>
    obtain ⟨k, s, hk, rfl, rfl, s0, s1, HC, HS, hb⟩ := hrel
    by_cases hlt : k < xs.length
    · obtain ⟨b1, o1, rfl, hb1, hc1⟩ := (ha.later hb).at hlt
      have c1 := hc1 k hlt
      obtain ⟨x, hx⟩ : ∃ x, xs.getD k 0 = x := ⟨_, rfl⟩
      rw [hx] at c1
      have HD := Lib.hid (drop_cons' hlt hx)
      clear hc1 hx
      have i0 : (0 : Int) ≤ (k : Int) := by omega
      have i1 : (k : Int) < (xs.length : Int) := by omega
      go_wp2
      · have e1 : cok 0 xs = false := by rw [HC.out, HD.out]; exact cok_bad (by omega)
        go_ret2
        exact ⟨by simp [cS, e1], hb⟩
      · go_roundw
        case rel => exact ⟨k + 1, s + x, by omega, by go_num, rfl, by omega, by omega, by show _ = _; rw [HC.out, HD.out]; exact cok_good (by omega), by show _ = _; rw [HS.out, HD.out]; simp; omega, hb⟩
        case measure => go_light; simp [intOf]; omega
      · have e1 : cok 0 xs = false := by rw [HC.out, HD.out]; exact cok_bad (by omega)
        go_ret2
        exact ⟨by simp [cS, e1], hb⟩
      · have e1 : cok 0 xs = false := by rw [HC.out, HD.out]; exact cok_bad (by omega)
        go_ret2
        exact ⟨by simp [cS, e1], hb⟩
    · have hkk : k = xs.length := by omega
      have e1 : cok 0 xs = true := by rw [HC.out, hkk, List.drop_length]; rfl
      have e2 : cS xs = s := by unfold cS; rw [if_pos e1, HS.out, hkk, List.drop_length]; simp
      have E1 := Lib.hid e1
      have E2 := Lib.hid e2
      subst hkk
      clear e1 e2
      go_wp2
      go_ret2
      exact ⟨by rw [E1.out, E2.out]; rfl, hb⟩

/-- The check of counts. -/
def cchk (xs : List Int) : Int := if 256 < xs.length then 6 else if cok 0 xs = true then 0 else 2
theorem check_c (a : Option Addr) (xs : List Int) (cap : Nat) (w : World) (ha : Row .i64 w a xs) (hl : xs.length ≤ 9223372036854775807) :
    Calls Try.prog 33 #[.slice a xs.length cap] w fun e w' => e = .returned (.int .i64 (cchk xs)) ∧ Below w.heap.size w w' := by
  by_cases h : 256 < xs.length
  · have e1 : cchk xs = 6 := by unfold cchk; rw [if_pos h]
    have E1 := Lib.hid e1
    clear e1
    go_enter Try.func33, Try.ntmps33
    go_wp2_with ((go_at_call 44; refine (sum_p _ _ _ _ ha hl).mono ?_; rintro e w1 ⟨rfl, hb⟩; have hsz := hb.size; (try simp at hsz); (first | (have hbl := blater2 HA (by first | exact Nat.le_refl _ | (simp; done) | (simp; omega)) hb; obtain ⟨hcc, hff, HA, hne, hne'⟩ := hbl) | (obtain ⟨hcc, hff, HA, hne, hne'⟩ := blater1 hb)); (try simp only [World.size_alloc, World.size_setCell] at HA)))
    repeat' (first | (go_region <;> go_wp2_with ((go_at_call 44; refine (sum_p _ _ _ _ ha hl).mono ?_; rintro e w1 ⟨rfl, hb⟩; have hsz := hb.size; (try simp at hsz); (first | (have hbl := blater2 HA (by first | exact Nat.le_refl _ | (simp; done) | (simp; omega)) hb; obtain ⟨hcc, hff, HA, hne, hne'⟩ := hbl) | (obtain ⟨hcc, hff, HA, hne, hne'⟩ := blater1 hb)); (try simp only [World.size_alloc, World.size_setCell] at HA)))))
    all_goals go_light
    all_goals (try simp only [beq_iff_eq, beq_eq_false_iff_ne, bne_iff_ne, bne_eq_false_iff_eq, ne_eq] at *)
    all_goals
      refine bodyPost_ret (v := .int .i64 6) (by simp [results, Try.results33, go_sem, *]) rfl ⟨by rw [E1.out], ?_⟩
      repeat' (first | exact Below.refl _ _ | refine Below.drew ?_ | refine below_drewN ?_ _ | refine Below.alloc ?_ (by first | omega | (simp <;> omega)) _ | refine Below.setCell ?_ (by first | omega | (simp <;> omega)) _ | refine Below.trans ?_ (Below.mono (by assumption) (by first | omega | (simp <;> omega))))
  · by_cases h2 : cok 0 xs = true
    · have e1 : cchk xs = 0 := by unfold cchk; rw [if_neg h, if_pos h2]
      have E1 := Lib.hid e1
      clear e1
      go_enter Try.func33, Try.ntmps33
      go_wp2_with ((go_at_call 44; refine (sum_p _ _ _ _ ha hl).mono ?_; rintro e w1 ⟨rfl, hb⟩; have hsz := hb.size; (try simp at hsz); (first | (have hbl := blater2 HA (by first | exact Nat.le_refl _ | (simp; done) | (simp; omega)) hb; obtain ⟨hcc, hff, HA, hne, hne'⟩ := hbl) | (obtain ⟨hcc, hff, HA, hne, hne'⟩ := blater1 hb)); (try simp only [World.size_alloc, World.size_setCell] at HA)))
      repeat' (first | (go_region <;> go_wp2_with ((go_at_call 44; refine (sum_p _ _ _ _ ha hl).mono ?_; rintro e w1 ⟨rfl, hb⟩; have hsz := hb.size; (try simp at hsz); (first | (have hbl := blater2 HA (by first | exact Nat.le_refl _ | (simp; done) | (simp; omega)) hb; obtain ⟨hcc, hff, HA, hne, hne'⟩ := hbl) | (obtain ⟨hcc, hff, HA, hne, hne'⟩ := blater1 hb)); (try simp only [World.size_alloc, World.size_setCell] at HA)))))
      all_goals go_light
      all_goals (try simp only [beq_iff_eq, beq_eq_false_iff_ne, bne_iff_ne, bne_eq_false_iff_eq, ne_eq] at *)
      all_goals
        refine bodyPost_ret (v := .int .i64 0) (by simp [results, Try.results33, go_sem, *]) rfl ⟨by rw [E1.out], ?_⟩
        repeat' (first | exact Below.refl _ _ | refine Below.drew ?_ | refine below_drewN ?_ _ | refine Below.alloc ?_ (by first | omega | (simp <;> omega)) _ | refine Below.setCell ?_ (by first | omega | (simp <;> omega)) _ | refine Below.trans ?_ (Below.mono (by assumption) (by first | omega | (simp <;> omega))))
    · have e1 : cchk xs = 2 := by unfold cchk; rw [if_neg h, if_neg h2]
      have E1 := Lib.hid e1
      have h3 : cok 0 xs = false := by simpa using h2
      clear e1 h2
      go_enter Try.func33, Try.ntmps33
      go_wp2_with ((go_at_call 44; refine (sum_p _ _ _ _ ha hl).mono ?_; rintro e w1 ⟨rfl, hb⟩; have hsz := hb.size; (try simp at hsz); (first | (have hbl := blater2 HA (by first | exact Nat.le_refl _ | (simp; done) | (simp; omega)) hb; obtain ⟨hcc, hff, HA, hne, hne'⟩ := hbl) | (obtain ⟨hcc, hff, HA, hne, hne'⟩ := blater1 hb)); (try simp only [World.size_alloc, World.size_setCell] at HA)))
      repeat' (first | (go_region <;> go_wp2_with ((go_at_call 44; refine (sum_p _ _ _ _ ha hl).mono ?_; rintro e w1 ⟨rfl, hb⟩; have hsz := hb.size; (try simp at hsz); (first | (have hbl := blater2 HA (by first | exact Nat.le_refl _ | (simp; done) | (simp; omega)) hb; obtain ⟨hcc, hff, HA, hne, hne'⟩ := hbl) | (obtain ⟨hcc, hff, HA, hne, hne'⟩ := blater1 hb)); (try simp only [World.size_alloc, World.size_setCell] at HA)))))
      all_goals go_light
      all_goals (try simp only [beq_iff_eq, beq_eq_false_iff_ne, bne_iff_ne, bne_eq_false_iff_eq, ne_eq] at *)
      all_goals
        refine bodyPost_ret (v := .int .i64 2) (by simp [results, Try.results33, go_sem, *]) rfl ⟨by rw [E1.out], ?_⟩
        repeat' (first | exact Below.refl _ _ | refine Below.drew ?_ | refine below_drewN ?_ _ | refine Below.alloc ?_ (by first | omega | (simp <;> omega)) _ | refine Below.setCell ?_ (by first | omega | (simp <;> omega)) _ | refine Below.trans ?_ (Below.mono (by assumption) (by first | omega | (simp <;> omega))))
end Go.Proofs.Ytmfgkimbehkdeaa
