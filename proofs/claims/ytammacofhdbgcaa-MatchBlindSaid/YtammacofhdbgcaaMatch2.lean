/-
  The comparison of matches, walked: of the program and of the reference.
-/
import Derived.Test.YtammacofhdbgcaaRows
import Derived.Test.YtammacofhdbgcaaMatch1
import Derived.Test.YtammacofhdbgcaaCommon
import Derived.Deep.Light
import Derived.Shelf.Abstract
import Derived.Shelf.RegionOpen
import Derived.OwnWalkIn
import Derived.TacticsInMore
import Derived.LoopNIn
import Derived.LoopIn
import Derived.Outline
namespace Go.Proofs.Ytammacofhdbgcaa
open Go.RowKit
set_option linter.unusedSimpArgs false
set_option linter.unusedVariables false
open Go.Shelf
attribute [local go_sem] Oper.semAt_some

/-- -1, 0, 1. -/
def cmpi (a b : Int) : Int := if a < b then -1 else if b < a then 1 else 0
theorem cmpi_neg (a b : Int) : cmpi a b < 0 ↔ a < b := by unfold cmpi; split <;> (try split) <;> omega
theorem cmpi_zero (a b : Int) : cmpi a b = 0 ↔ a = b := by unfold cmpi; split <;> (try split) <;> omega

theorem isNaN_s (a : Int) (w : World) : Calls Try.prog 112 #[.int .i64 a] w fun e w' => e = .returned (.bool false) ∧ w' = w := by
  go_enter Try.func112, Try.ntmps112
  go_wp2
  go_ret
  exact ⟨rfl, rfl⟩
theorem cmpi_s (a b : Int) (w : World) : Calls Try.prog 106 #[.int .i64 a, .int .i64 b] w fun e w' => e = .returned (.int .i64 (cmpi a b)) ∧ w' = w := by
  unfold cmpi
  by_cases h1 : a < b
  · rw [if_pos h1]
    go_enter Try.func106, Try.ntmps106
    go_wp2_with (go_at_call 112; refine (isNaN_s _ _).mono ?_; rintro e w' ⟨rfl, rfl⟩)
    go_ret
    exact ⟨rfl, rfl⟩
  · rw [if_neg h1]
    by_cases h2 : b < a
    · rw [if_pos h2]
      go_enter Try.func106, Try.ntmps106
      go_wp2_with (go_at_call 112; refine (isNaN_s _ _).mono ?_; rintro e w' ⟨rfl, rfl⟩)
      go_ret
      exact ⟨rfl, rfl⟩
    · rw [if_neg h2]
      go_enter Try.func106, Try.ntmps106
      go_wp2_with (go_at_call 112; refine (isNaN_s _ _).mono ?_; rintro e w' ⟨rfl, rfl⟩)
      go_ret
      exact ⟨rfl, rfl⟩

theorem fgain_s (ad al av ag bd bl bv bg : Int) (w : World) : Calls Try.prog 87 #[.agg #[.int .i64 ad, .int .i64 al, .int .i64 av, .int .i64 ag], .agg #[.int .i64 bd, .int .i64 bl, .int .i64 bv, .int .i64 bg]] w fun e w' => e = .returned (.int .i64 (cmpi bg ag)) ∧ Below w.heap.size w w' := by
  have q := fun w => cmpi_s bg ag w
  generalize cmpi bg ag = z at q
  go_enter Try.func87, Try.ntmps87
  go_wp2_with (go_at_call 106; refine (q _).mono ?_; rintro e w' ⟨rfl, rfl⟩)
  go_light
  refine bodyPost_ret (v := .int .i64 z) (by simp [results, Try.results87, go_sem, *]) rfl ⟨rfl, ?_⟩
  repeat' (first | exact Below.refl _ _ | refine Below.drew ?_ | refine below_drewN ?_ _ | refine Below.alloc ?_ (by first | omega | (simp <;> omega)) _ | refine Below.setCell ?_ (by first | omega | (simp <;> omega)) _ | refine Below.trans ?_ (Below.mono (by assumption) (by first | omega | (simp <;> omega))))

theorem fvalue_s (ad al av ag bd bl bv bg : Int) (w : World) : Calls Try.prog 88 #[.agg #[.int .i64 ad, .int .i64 al, .int .i64 av, .int .i64 ag], .agg #[.int .i64 bd, .int .i64 bl, .int .i64 bv, .int .i64 bg]] w fun e w' => e = .returned (.int .i64 (cmpi av bv)) ∧ Below w.heap.size w w' := by
  have q := fun w => cmpi_s av bv w
  generalize cmpi av bv = z at q
  go_enter Try.func88, Try.ntmps88
  go_wp2_with (go_at_call 106; refine (q _).mono ?_; rintro e w' ⟨rfl, rfl⟩)
  go_light
  refine bodyPost_ret (v := .int .i64 z) (by simp [results, Try.results88, go_sem, *]) rfl ⟨rfl, ?_⟩
  repeat' (first | exact Below.refl _ _ | refine Below.drew ?_ | refine below_drewN ?_ _ | refine Below.alloc ?_ (by first | omega | (simp <;> omega)) _ | refine Below.setCell ?_ (by first | omega | (simp <;> omega)) _ | refine Below.trans ?_ (Below.mono (by assumption) (by first | omega | (simp <;> omega))))

theorem fdist_s (ad al av ag bd bl bv bg : Int) (w : World) : Calls Try.prog 89 #[.agg #[.int .i64 ad, .int .i64 al, .int .i64 av, .int .i64 ag], .agg #[.int .i64 bd, .int .i64 bl, .int .i64 bv, .int .i64 bg]] w fun e w' => e = .returned (.int .i64 (cmpi ad bd)) ∧ Below w.heap.size w w' := by
  have q := fun w => cmpi_s ad bd w
  generalize cmpi ad bd = z at q
  go_enter Try.func89, Try.ntmps89
  go_wp2_with (go_at_call 106; refine (q _).mono ?_; rintro e w' ⟨rfl, rfl⟩)
  go_light
  refine bodyPost_ret (v := .int .i64 z) (by simp [results, Try.results89, go_sem, *]) rfl ⟨rfl, ?_⟩
  repeat' (first | exact Below.refl _ _ | refine Below.drew ?_ | refine below_drewN ?_ _ | refine Below.alloc ?_ (by first | omega | (simp <;> omega)) _ | refine Below.setCell ?_ (by first | omega | (simp <;> omega)) _ | refine Below.trans ?_ (Below.mono (by assumption) (by first | omega | (simp <;> omega))))

/-- Which of two matches is better: below 0 the first. -/
def mcmp (a b : Int × Int × Int × Int) : Int := if a = b then 0 else if cmpi b.2.2.2 a.2.2.2 ≠ 0 then cmpi b.2.2.2 a.2.2.2 else if cmpi a.2.2.1 b.2.2.1 ≠ 0 then cmpi a.2.2.1 b.2.2.1 else cmpi a.1 b.1
/-- A match is better than another one. -/
def mbet (a b : Int × Int × Int × Int) : Bool := if a.2.2.2 ≠ b.2.2.2 then decide (b.2.2.2 < a.2.2.2) else if a.2.2.1 ≠ b.2.2.1 then decide (a.2.2.1 < b.2.2.1) else decide (a.1 < b.1)
theorem mcmp_bet (a b : Int × Int × Int × Int) : decide (mcmp a b < 0) = mbet a b := by
  obtain ⟨ad, al, av, ag⟩ := a
  obtain ⟨bd, bl, bv, bg⟩ := b
  unfold mcmp mbet
  by_cases h : ((ad, al, av, ag) : Int × Int × Int × Int) = (bd, bl, bv, bg)
  · rw [if_pos h]
    simp only [Prod.mk.injEq] at h
    obtain ⟨rfl, rfl, rfl, rfl⟩ := h
    simp
  · rw [if_neg h]
    dsimp only
    by_cases h1 : cmpi bg ag = 0
    · rw [if_neg (show ¬ (cmpi bg ag ≠ 0) from fun h => h h1)]
      have e1 := (cmpi_zero bg ag).1 h1
      rw [if_neg (show ¬ (ag ≠ bg) from fun h => h e1.symm)]
      by_cases h2 : cmpi av bv = 0
      · rw [if_neg (show ¬ (cmpi av bv ≠ 0) from fun h => h h2)]
        have e2 := (cmpi_zero av bv).1 h2
        rw [if_neg (show ¬ (av ≠ bv) from fun h => h e2)]
        exact decide_eq_decide.2 (cmpi_neg ad bd)
      · rw [if_pos h2]
        have e2 : av ≠ bv := fun e => h2 ((cmpi_zero av bv).2 e)
        rw [if_pos e2]
        exact decide_eq_decide.2 (cmpi_neg av bv)
    · rw [if_pos h1]
      have e1 : ag ≠ bg := fun e => h1 ((cmpi_zero bg ag).2 e.symm)
      rw [if_pos e1]
      exact decide_eq_decide.2 (cmpi_neg bg ag)
theorem eq32 (w : World) (ad al av ag bd bl bv bg : Int) : (Op.equalIn 10000 32 (.agg #[.int .i64 ad, .int .i64 al, .int .i64 av, .int .i64 ag]) (.agg #[.int .i64 bd, .int .i64 bl, .int .i64 bv, .int .i64 bg])).run Try.prog w = .ok (ad == bd && al == bl && av == bv && ag == bg) w := by
  by_cases h1 : ad = bd
  · by_cases h2 : al = bl
    · by_cases h3 : av = bv
      · by_cases h4 : ag = bg <;> simp [go_sem, h1, h2, h3, h4]
      · simp [go_sem, h1, h2, h3]
    · simp [go_sem, h1, h2]
  · simp [go_sem, h1]
set_option maxHeartbeats 2000000 in
theorem compare_0 (ad al av ag : Int) (w : World) : Calls Try.prog 63 #[.agg #[.int .i64 ad, .int .i64 al, .int .i64 av, .int .i64 ag], .agg #[.int .i64 ad, .int .i64 al, .int .i64 av, .int .i64 ag]] w fun e w' => e = .returned (.int .i64 0) ∧ Below w.heap.size w w' := by
  go_enter Try.func63, Try.ntmps63
  go_wp2
  go_light
  refine bodyPost_ret (v := .int .i64 0) (by simp [results, Try.results63, go_sem, *]) rfl ⟨rfl, ?_⟩
  repeat' (first | exact Below.refl _ _ | refine Below.drew ?_ | refine below_drewN ?_ _ | refine Below.alloc ?_ (by first | omega | (simp <;> omega)) _ | refine Below.setCell ?_ (by first | omega | (simp <;> omega)) _ | refine Below.trans ?_ (Below.mono (by assumption) (by first | omega | (simp <;> omega))))
theorem fidx0 (w : World) : (Instr.index 129 (.agg #[.func (.func 87) #[] #[], .func (.func 88) #[] #[], .func (.func 89) #[] #[]]) (.int .i64 0)).run Try.prog w = .ok (.func (.func 87) #[] #[]) w := by kernel_rfl
theorem fidx1 (w : World) : (Instr.index 129 (.agg #[.func (.func 87) #[] #[], .func (.func 88) #[] #[], .func (.func 89) #[] #[]]) (.int .i64 1)).run Try.prog w = .ok (.func (.func 88) #[] #[]) w := by kernel_rfl
theorem fidx2 (w : World) : (Instr.index 129 (.agg #[.func (.func 87) #[] #[], .func (.func 88) #[] #[], .func (.func 89) #[] #[]]) (.int .i64 2)).run Try.prog w = .ok (.func (.func 89) #[] #[]) w := by kernel_rfl
attribute [local go_sem] fidx0 fidx1 fidx2
set_option maxRecDepth 100000 in
set_option maxHeartbeats 2000000 in
theorem compare_1 (ad al av ag bd bl bv bg z1 z2 z3 : Int) (w : World) (hne : (ad == bd && al == bl && av == bv && ag == bg) = false)
    (q1 : ∀ w, Calls Try.prog 87 #[.agg #[.int .i64 ad, .int .i64 al, .int .i64 av, .int .i64 ag], .agg #[.int .i64 bd, .int .i64 bl, .int .i64 bv, .int .i64 bg]] w fun e w' => e = .returned (.int .i64 z1) ∧ Below w.heap.size w w')
    (q2 : ∀ w, Calls Try.prog 88 #[.agg #[.int .i64 ad, .int .i64 al, .int .i64 av, .int .i64 ag], .agg #[.int .i64 bd, .int .i64 bl, .int .i64 bv, .int .i64 bg]] w fun e w' => e = .returned (.int .i64 z2) ∧ Below w.heap.size w w')
    (q3 : ∀ w, Calls Try.prog 89 #[.agg #[.int .i64 ad, .int .i64 al, .int .i64 av, .int .i64 ag], .agg #[.int .i64 bd, .int .i64 bl, .int .i64 bv, .int .i64 bg]] w fun e w' => e = .returned (.int .i64 z3) ∧ Below w.heap.size w w') :
    Calls Try.prog 63 #[.agg #[.int .i64 ad, .int .i64 al, .int .i64 av, .int .i64 ag], .agg #[.int .i64 bd, .int .i64 bl, .int .i64 bv, .int .i64 bg]] w fun e w' => e = .returned (.int .i64 (if z1 ≠ 0 then z1 else if z2 ≠ 0 then z2 else z3)) ∧ Below w.heap.size w w' := by
  have hx : (z1 ≠ 0 ∧ (z1 != 0) = true) ∨ (z1 = 0 ∧ ((z2 ≠ 0 ∧ (z2 != 0) = true) ∨ (z2 = 0 ∧ ((z3 ≠ 0 ∧ (z3 != 0) = true) ∨ z3 = 0)))) := by
    simp only [bne_iff_ne, ne_eq]
    omega
  have heq : ∀ w, (Op.equalIn 10000 32 (.agg #[.int .i64 ad, .int .i64 al, .int .i64 av, .int .i64 ag]) (.agg #[.int .i64 bd, .int .i64 bl, .int .i64 bv, .int .i64 bg])).run Try.prog w = .ok false w := fun w => by rw [eq32, hne]
  clear hne
  rcases hx with ⟨h1, g1⟩ | ⟨rfl, ⟨h2, g2⟩ | ⟨rfl, ⟨h3, g3⟩ | rfl⟩⟩
  all_goals
    go_enter Try.func63, Try.ntmps63
    go_wp2
    refine wp_loop_rounds 4 ?_
    repeat' (rw [rounds_succ]; go_wp2_with (first | (go_at_call 87; refine (q1 _).mono ?_; rintro e w1 ⟨rfl, hb⟩; have hsz := hb.size; (try simp at hsz); (first | (have hbl := blater2 HA (by first | exact Nat.le_refl _ | (simp; done) | (simp; omega)) hb; obtain ⟨hcc, hff, HA, hne, hne'⟩ := hbl) | (obtain ⟨hcc, hff, HA, hne, hne'⟩ := blater1 hb)); (try simp only [World.size_alloc, World.size_setCell] at HA)) | (go_at_call 88; refine (q2 _).mono ?_; rintro e w1 ⟨rfl, hb⟩; have hsz := hb.size; (try simp at hsz); (first | (have hbl := blater2 HA (by first | exact Nat.le_refl _ | (simp; done) | (simp; omega)) hb; obtain ⟨hcc, hff, HA, hne, hne'⟩ := hbl) | (obtain ⟨hcc, hff, HA, hne, hne'⟩ := blater1 hb)); (try simp only [World.size_alloc, World.size_setCell] at HA)) | (go_at_call 89; refine (q3 _).mono ?_; rintro e w1 ⟨rfl, hb⟩; have hsz := hb.size; (try simp at hsz); (first | (have hbl := blater2 HA (by first | exact Nat.le_refl _ | (simp; done) | (simp; omega)) hb; obtain ⟨hcc, hff, HA, hne, hne'⟩ := hbl) | (obtain ⟨hcc, hff, HA, hne, hne'⟩ := blater1 hb)); (try simp only [World.size_alloc, World.size_setCell] at HA))))
    go_light
    first
      | (refine bodyPost_ret (v := .int .i64 z1) (by simp [results, Try.results63, go_sem, *]) rfl ⟨rfl, ?_⟩; repeat' (first | exact Below.refl _ _ | refine Below.drew ?_ | refine below_drewN ?_ _ | refine Below.alloc ?_ (by first | omega | (simp <;> omega)) _ | refine Below.setCell ?_ (by first | omega | (simp <;> omega)) _ | refine Below.trans ?_ (Below.mono (by assumption) (by first | omega | (simp <;> omega)))))
      | (refine bodyPost_ret (v := .int .i64 z2) (by simp [results, Try.results63, go_sem, *]) rfl ⟨rfl, ?_⟩; repeat' (first | exact Below.refl _ _ | refine Below.drew ?_ | refine below_drewN ?_ _ | refine Below.alloc ?_ (by first | omega | (simp <;> omega)) _ | refine Below.setCell ?_ (by first | omega | (simp <;> omega)) _ | refine Below.trans ?_ (Below.mono (by assumption) (by first | omega | (simp <;> omega)))))
      | (refine bodyPost_ret (v := .int .i64 z3) (by simp [results, Try.results63, go_sem, *]) rfl ⟨rfl, ?_⟩; repeat' (first | exact Below.refl _ _ | refine Below.drew ?_ | refine below_drewN ?_ _ | refine Below.alloc ?_ (by first | omega | (simp <;> omega)) _ | refine Below.setCell ?_ (by first | omega | (simp <;> omega)) _ | refine Below.trans ?_ (Below.mono (by assumption) (by first | omega | (simp <;> omega)))))
      | (refine bodyPost_ret (v := .int .i64 0) (by simp [results, Try.results63, go_sem, *]) rfl ⟨rfl, ?_⟩; repeat' (first | exact Below.refl _ _ | refine Below.drew ?_ | refine below_drewN ?_ _ | refine Below.alloc ?_ (by first | omega | (simp <;> omega)) _ | refine Below.setCell ?_ (by first | omega | (simp <;> omega)) _ | refine Below.trans ?_ (Below.mono (by assumption) (by first | omega | (simp <;> omega)))))
theorem compare_p (a b : Int × Int × Int × Int) (w : World) : Calls Try.prog 63 #[.agg #[.int .i64 a.1, .int .i64 a.2.1, .int .i64 a.2.2.1, .int .i64 a.2.2.2], .agg #[.int .i64 b.1, .int .i64 b.2.1, .int .i64 b.2.2.1, .int .i64 b.2.2.2]] w fun e w' => e = .returned (.int .i64 (mcmp a b)) ∧ Below w.heap.size w w' := by
  obtain ⟨ad, al, av, ag⟩ := a
  obtain ⟨bd, bl, bv, bg⟩ := b
  unfold mcmp
  by_cases h : ((ad, al, av, ag) : Int × Int × Int × Int) = (bd, bl, bv, bg)
  · rw [if_pos h]
    simp only [Prod.mk.injEq] at h
    obtain ⟨rfl, rfl, rfl, rfl⟩ := h
    exact compare_0 ad al av ag w
  · rw [if_neg h]
    exact compare_1 ad al av ag bd bl bv bg _ _ _ w (by simpa [Prod.mk.injEq] using h) (fun w => fgain_s _ _ _ _ _ _ _ _ w) (fun w => fvalue_s _ _ _ _ _ _ _ _ w) (fun w => fdist_s _ _ _ _ _ _ _ _ w)
theorem better_p (a b : Int × Int × Int × Int) (w : World) : Calls Try.prog 26 #[.agg #[.int .i64 a.1, .int .i64 a.2.1, .int .i64 a.2.2.1, .int .i64 a.2.2.2], .agg #[.int .i64 b.1, .int .i64 b.2.1, .int .i64 b.2.2.1, .int .i64 b.2.2.2]] w fun e w' => e = .returned (.bool (mbet a b)) ∧ Below w.heap.size w w' := by
  have q := fun w => compare_p a b w
  rw [← mcmp_bet]
  generalize mcmp a b = z at q
  go_enter Try.func26, Try.ntmps26
  go_wp2_with ((go_at_call 63; refine (q _).mono ?_; rintro e w1 ⟨rfl, hb⟩; have hsz := hb.size; (try simp at hsz); (first | (have hbl := blater2 HA (by first | exact Nat.le_refl _ | (simp; done) | (simp; omega)) hb; obtain ⟨hcc, hff, HA, hne, hne'⟩ := hbl) | (obtain ⟨hcc, hff, HA, hne, hne'⟩ := blater1 hb)); (try simp only [World.size_alloc, World.size_setCell] at HA)))
  go_light
  refine bodyPost_ret (v := .bool (decide (z < 0))) (by simp [results, Try.results26, go_sem, *]) rfl ⟨rfl, ?_⟩
  repeat' (first | exact Below.refl _ _ | refine Below.drew ?_ | refine below_drewN ?_ _ | refine Below.alloc ?_ (by first | omega | (simp <;> omega)) _ | refine Below.setCell ?_ (by first | omega | (simp <;> omega)) _ | refine Below.trans ?_ (Below.mono (by assumption) (by first | omega | (simp <;> omega))))
end Go.Proofs.Ytammacofhdbgcaa
