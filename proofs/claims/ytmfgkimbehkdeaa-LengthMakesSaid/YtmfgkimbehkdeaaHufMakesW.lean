/-
  LengthMakes, walked.
-/
import Derived.Test.YtmfgkimbehkdeaaRows
import Derived.Test.YtmfgkimbehkdeaaHufRLen
import Derived.Test.YtmfgkimbehkdeaaHufLaw
import Derived.Test.YtmfgkimbehkdeaaOwnInts
import Derived.Test.YtmfgkimbehkdeaaGBase
import Derived.Deep.Light
import Derived.Shelf.Abstract
import Derived.Shelf.RegionOpen
import Derived.OwnWalkIn
import Derived.TacticsInMore
import Derived.LoopNIn
import Derived.LoopIn
namespace Go.Proofs.Ytmfgkimbehkdeaa
open Go.RowKit
set_option linter.unusedSimpArgs false
set_option linter.unusedVariables false
attribute [local go_sem] Oper.semAt_some
theorem rlen_x (a : Option Addr) (xs : List Int) (n cap : Nat) (w : World) (hn : n = xs.length) (ha : Row .i64 w a xs) (hl : n ≤ 9223372036854775807) (ps : List Int) (m : Nat) (E : Int) (h : rLen xs = (ps, E)) (hm : m = ps.length) :
    Calls Try.prog 11 #[.slice a n cap] w fun e w' => ∃ pa ca, e = .returned (.tuple #[.slice pa m ca, .int .i64 E]) ∧ Row .i64 w' pa ps ∧ Below w.heap.size w w' := by
  subst hn hm
  have := rof_w a xs cap w ha hl
  rw [h] at this
  refine this.mono ?_
  rintro e w' ⟨pa, ca, h1, h3, h4⟩
  exact ⟨pa, ca, h1, h3, h4⟩
theorem rdep_x (a : Option Addr) (xs : List Int) (n cap : Nat) (w : World) (hn : n = xs.length) (ha : Row .i64 w a xs) (hl : n ≤ 9223372036854775807) (ps : List Int) (m : Nat) (E : Int) (h : rDep xs = (ps, E)) (hm : m = ps.length) :
    Calls Try.prog 13 #[.slice a n cap] w fun e w' => ∃ pa ca, e = .returned (.tuple #[.slice pa m ca, .int .i64 E]) ∧ Row .i64 w' pa ps ∧ Below w.heap.size w w' := by
  subst hn hm
  have := rdepth_w a xs cap w ha hl
  rw [h] at this
  refine this.mono ?_
  rintro e w' ⟨pa, ca, h1, h3, h4⟩
  exact ⟨pa, ca, h1, h3, h4⟩

theorem rLen_len (xs : List Int) : (rLen xs).1.length ≤ 256 := by
  unfold rLen
  by_cases h : chkL xs = 0
  · rw [if_pos h]
    have hr := Right.of h
    show (ints (ofL (nn xs).sum (nn xs))).length ≤ 256
    rw [ints_length, (of_whole hr.two hr.len (Nat.le_refl _)).1]
    exact hr.len
  · rw [if_neg h]
    exact Nat.zero_le _
theorem rDep_len (xs : List Int) : (rDep xs).1.length ≤ 256 := by
  unfold rDep
  by_cases h : chkL xs = 0
  · rw [if_pos h]
    have hr := Right.of h
    show (ints (depthsL (nn xs))).length ≤ 256
    rw [ints_length, depthsL_len (by have := hr.two; omega)]
    exact hr.len
  · rw [if_neg h]
    exact Nat.zero_le _
set_option maxRecDepth 100000 in
set_option maxHeartbeats 4000000 in
theorem makes_w (a : Option Addr) (xs : List Int) (ca : Nat) (w : World) (ha : Row .i64 w a xs) (hl : xs.length ≤ 9223372036854775807) :
    Calls Try.prog 3 #[.slice a xs.length ca] w fun e w' => e = .returned (.bool true) ∧ Below w.heap.size w w' := by
  by_cases g1 : (260 : Int) < (xs.length : Int)
  · skip
    go_enter Try.func3, Try.ntmps3
    go_wp2_with ((go_at_call 8; refine (awake13 _).mono ?_; rintro e w1 ⟨rfl, hb⟩; have hsz := hb.size; (try simp at hsz)))
    repeat' (first | (go_region <;> go_wp2_with ((go_at_call 8; refine (awake13 _).mono ?_; rintro e w1 ⟨rfl, hb⟩; have hsz := hb.size; (try simp at hsz)))))
    all_goals go_light
    all_goals (try simp only [beq_iff_eq, beq_eq_false_iff_ne, bne_iff_ne, bne_eq_false_iff_eq, ne_eq] at *)
    all_goals
      refine bodyPost_ret (v := .bool true) (by simp [results, Try.results3, go_sem, *]) rfl ⟨rfl, ?_⟩
      repeat' (first | with_reducible exact Below.refl _ _ | with_reducible refine Below.drew ?_ | with_reducible refine below_drewN ?_ _ | with_reducible refine Below.alloc ?_ (by first | omega | (simp <;> omega)) _ | with_reducible refine Below.setCell ?_ (by first | omega | (dsimp only; omega) | (simp <;> omega)) _ | with_reducible refine Below.trans ?_ (Below.mono (by assumption) (by first | omega | (simp <;> omega))))
  · have qa := fun W (hW : Row .i64 W a xs) => ownInts_k a xs ca W hW (by omega)
    obtain ⟨ps, E1, hR1⟩ : ∃ ps E, rLen xs = (ps, E) := ⟨_, _, rfl⟩
    obtain ⟨ds, E2, hR2⟩ : ∃ ps E, rDep xs = (ps, E) := ⟨_, _, rfl⟩
    have l1 := rLen_len xs
    have l2 := rDep_len xs
    rw [hR1] at l1
    rw [hR2] at l2
    obtain ⟨m, hM⟩ : ∃ m, m = ps.length := ⟨_, rfl⟩
    obtain ⟨d, hD⟩ : ∃ m, m = ds.length := ⟨_, rfl⟩
    have hm : m ≤ 9223372036854775807 := by dsimp only at l1; omega
    have hd : d ≤ 9223372036854775807 := by dsimp only at l2; omega
    have q1 := fun p c W (hW : Row .i64 W p xs) => len_x p xs xs.length c W rfl hW hl ps m E1 hR1 hM
    have q2 := fun p c W (hW : Row .i64 W p xs) => rlen_x p xs xs.length c W rfl hW hl ps m E1 hR1 hM
    have q3 := fun p c W (hW : Row .i64 W p xs) => dep_x p xs xs.length c W rfl hW hl ds d E2 hR2 hD
    have q4 := fun p c W (hW : Row .i64 W p xs) => rdep_x p xs xs.length c W rfl hW hl ds d E2 hR2 hD
    have HM := Lib.hid hM
    have HD := Lib.hid hD
    clear hR1 hR2 l1 l2 hM hD
    go_enter Try.func3, Try.ntmps3
    go_wp2_with (first | (go_at_call 8; refine (awake13 _).mono ?_; rintro e w1 ⟨rfl, hb⟩; have hsz := hb.size; (try simp at hsz)) | (go_at_call 9; (with_reducible refine (qa _ (ha.later (by repeat' (first | with_reducible exact Below.refl _ _ | with_reducible refine Below.drew ?_ | with_reducible refine below_drewN ?_ _ | with_reducible refine Below.alloc ?_ (by first | omega | (simp <;> omega)) _ | with_reducible refine Below.setCell ?_ (by first | omega | (dsimp only; omega) | (simp <;> omega)) _ | with_reducible refine Below.trans ?_ (Below.mono (by assumption) (by first | omega | (simp <;> omega))))))).mono ?_); rintro e w1 ⟨pA, cA, rfl, hrA, hb⟩; have hsz := hb.size; (try simp at hsz)) | (go_at_call 10; (with_reducible refine (q1 _ _ _ (hrA.later (by repeat' (first | with_reducible exact Below.refl _ _ | with_reducible refine Below.drew ?_ | with_reducible refine below_drewN ?_ _ | with_reducible refine Below.alloc ?_ (by first | omega | (simp <;> omega)) _ | with_reducible refine Below.setCell ?_ (by first | omega | (dsimp only; omega) | (simp <;> omega)) _ | with_reducible refine Below.trans ?_ (Below.mono (by assumption) (by first | omega | (simp <;> omega))))))).mono ?_); rintro e w1 ⟨pB, cB, rfl, hrB, hb⟩; have hsz := hb.size; (try simp at hsz)) | (go_at_call 11; (with_reducible refine (q2 _ _ _ (ha.later (by repeat' (first | with_reducible exact Below.refl _ _ | with_reducible refine Below.drew ?_ | with_reducible refine below_drewN ?_ _ | with_reducible refine Below.alloc ?_ (by first | omega | (simp <;> omega)) _ | with_reducible refine Below.setCell ?_ (by first | omega | (dsimp only; omega) | (simp <;> omega)) _ | with_reducible refine Below.trans ?_ (Below.mono (by assumption) (by first | omega | (simp <;> omega))))))).mono ?_); rintro e w1 ⟨pC, cC, rfl, hrC, hb⟩; have hsz := hb.size; (try simp at hsz)) | (go_at_call 12; (with_reducible refine (q3 _ _ _ (hrA.later (by repeat' (first | with_reducible exact Below.refl _ _ | with_reducible refine Below.drew ?_ | with_reducible refine below_drewN ?_ _ | with_reducible refine Below.alloc ?_ (by first | omega | (simp <;> omega)) _ | with_reducible refine Below.setCell ?_ (by first | omega | (dsimp only; omega) | (simp <;> omega)) _ | with_reducible refine Below.trans ?_ (Below.mono (by assumption) (by first | omega | (simp <;> omega))))))).mono ?_); rintro e w1 ⟨pD, cD, rfl, hrD, hb⟩; have hsz := hb.size; (try simp at hsz)) | (go_at_call 13; (with_reducible refine (q4 _ _ _ (ha.later (by repeat' (first | with_reducible exact Below.refl _ _ | with_reducible refine Below.drew ?_ | with_reducible refine below_drewN ?_ _ | with_reducible refine Below.alloc ?_ (by first | omega | (simp <;> omega)) _ | with_reducible refine Below.setCell ?_ (by first | omega | (dsimp only; omega) | (simp <;> omega)) _ | with_reducible refine Below.trans ?_ (Below.mono (by assumption) (by first | omega | (simp <;> omega))))))).mono ?_); rintro e w1 ⟨pE, cE, rfl, hrE, hb⟩; have hsz := hb.size; (try simp at hsz)) | (go_at_call 14; (with_reducible refine (kn_same _ _ ps _ _ _ _ (hrB.later (by repeat' (first | with_reducible exact Below.refl _ _ | with_reducible refine Below.drew ?_ | with_reducible refine below_drewN ?_ _ | with_reducible refine Below.alloc ?_ (by first | omega | (simp <;> omega)) _ | with_reducible refine Below.setCell ?_ (by first | omega | (dsimp only; omega) | (simp <;> omega)) _ | with_reducible refine Below.trans ?_ (Below.mono (by assumption) (by first | omega | (simp <;> omega)))))) (hrC.later (by repeat' (first | with_reducible exact Below.refl _ _ | with_reducible refine Below.drew ?_ | with_reducible refine below_drewN ?_ _ | with_reducible refine Below.alloc ?_ (by first | omega | (simp <;> omega)) _ | with_reducible refine Below.setCell ?_ (by first | omega | (dsimp only; omega) | (simp <;> omega)) _ | with_reducible refine Below.trans ?_ (Below.mono (by assumption) (by first | omega | (simp <;> omega)))))) HM.out hm).mono ?_); rintro e w1 ⟨rfl, hb⟩; have hsz := hb.size; (try simp at hsz)) | (go_at_call 14; (with_reducible refine (kn_same _ _ ds _ _ _ _ (hrD.later (by repeat' (first | with_reducible exact Below.refl _ _ | with_reducible refine Below.drew ?_ | with_reducible refine below_drewN ?_ _ | with_reducible refine Below.alloc ?_ (by first | omega | (simp <;> omega)) _ | with_reducible refine Below.setCell ?_ (by first | omega | (dsimp only; omega) | (simp <;> omega)) _ | with_reducible refine Below.trans ?_ (Below.mono (by assumption) (by first | omega | (simp <;> omega)))))) (hrE.later (by repeat' (first | with_reducible exact Below.refl _ _ | with_reducible refine Below.drew ?_ | with_reducible refine below_drewN ?_ _ | with_reducible refine Below.alloc ?_ (by first | omega | (simp <;> omega)) _ | with_reducible refine Below.setCell ?_ (by first | omega | (dsimp only; omega) | (simp <;> omega)) _ | with_reducible refine Below.trans ?_ (Below.mono (by assumption) (by first | omega | (simp <;> omega)))))) HD.out hd).mono ?_); rintro e w1 ⟨rfl, hb⟩; have hsz := hb.size; (try simp at hsz)) | (go_at_call 14; (with_reducible refine (kn_same _ _ xs _ _ _ _ (hrA.later (by repeat' (first | with_reducible exact Below.refl _ _ | with_reducible refine Below.drew ?_ | with_reducible refine below_drewN ?_ _ | with_reducible refine Below.alloc ?_ (by first | omega | (simp <;> omega)) _ | with_reducible refine Below.setCell ?_ (by first | omega | (dsimp only; omega) | (simp <;> omega)) _ | with_reducible refine Below.trans ?_ (Below.mono (by assumption) (by first | omega | (simp <;> omega)))))) (ha.later (by repeat' (first | with_reducible exact Below.refl _ _ | with_reducible refine Below.drew ?_ | with_reducible refine below_drewN ?_ _ | with_reducible refine Below.alloc ?_ (by first | omega | (simp <;> omega)) _ | with_reducible refine Below.setCell ?_ (by first | omega | (dsimp only; omega) | (simp <;> omega)) _ | with_reducible refine Below.trans ?_ (Below.mono (by assumption) (by first | omega | (simp <;> omega)))))) rfl hl).mono ?_); rintro e w1 ⟨rfl, hb⟩; have hsz := hb.size; (try simp at hsz)))
    repeat' (first | (go_region <;> go_wp2_with (first | (go_at_call 8; refine (awake13 _).mono ?_; rintro e w1 ⟨rfl, hb⟩; have hsz := hb.size; (try simp at hsz)) | (go_at_call 9; (with_reducible refine (qa _ (ha.later (by repeat' (first | with_reducible exact Below.refl _ _ | with_reducible refine Below.drew ?_ | with_reducible refine below_drewN ?_ _ | with_reducible refine Below.alloc ?_ (by first | omega | (simp <;> omega)) _ | with_reducible refine Below.setCell ?_ (by first | omega | (dsimp only; omega) | (simp <;> omega)) _ | with_reducible refine Below.trans ?_ (Below.mono (by assumption) (by first | omega | (simp <;> omega))))))).mono ?_); rintro e w1 ⟨pA, cA, rfl, hrA, hb⟩; have hsz := hb.size; (try simp at hsz)) | (go_at_call 10; (with_reducible refine (q1 _ _ _ (hrA.later (by repeat' (first | with_reducible exact Below.refl _ _ | with_reducible refine Below.drew ?_ | with_reducible refine below_drewN ?_ _ | with_reducible refine Below.alloc ?_ (by first | omega | (simp <;> omega)) _ | with_reducible refine Below.setCell ?_ (by first | omega | (dsimp only; omega) | (simp <;> omega)) _ | with_reducible refine Below.trans ?_ (Below.mono (by assumption) (by first | omega | (simp <;> omega))))))).mono ?_); rintro e w1 ⟨pB, cB, rfl, hrB, hb⟩; have hsz := hb.size; (try simp at hsz)) | (go_at_call 11; (with_reducible refine (q2 _ _ _ (ha.later (by repeat' (first | with_reducible exact Below.refl _ _ | with_reducible refine Below.drew ?_ | with_reducible refine below_drewN ?_ _ | with_reducible refine Below.alloc ?_ (by first | omega | (simp <;> omega)) _ | with_reducible refine Below.setCell ?_ (by first | omega | (dsimp only; omega) | (simp <;> omega)) _ | with_reducible refine Below.trans ?_ (Below.mono (by assumption) (by first | omega | (simp <;> omega))))))).mono ?_); rintro e w1 ⟨pC, cC, rfl, hrC, hb⟩; have hsz := hb.size; (try simp at hsz)) | (go_at_call 12; (with_reducible refine (q3 _ _ _ (hrA.later (by repeat' (first | with_reducible exact Below.refl _ _ | with_reducible refine Below.drew ?_ | with_reducible refine below_drewN ?_ _ | with_reducible refine Below.alloc ?_ (by first | omega | (simp <;> omega)) _ | with_reducible refine Below.setCell ?_ (by first | omega | (dsimp only; omega) | (simp <;> omega)) _ | with_reducible refine Below.trans ?_ (Below.mono (by assumption) (by first | omega | (simp <;> omega))))))).mono ?_); rintro e w1 ⟨pD, cD, rfl, hrD, hb⟩; have hsz := hb.size; (try simp at hsz)) | (go_at_call 13; (with_reducible refine (q4 _ _ _ (ha.later (by repeat' (first | with_reducible exact Below.refl _ _ | with_reducible refine Below.drew ?_ | with_reducible refine below_drewN ?_ _ | with_reducible refine Below.alloc ?_ (by first | omega | (simp <;> omega)) _ | with_reducible refine Below.setCell ?_ (by first | omega | (dsimp only; omega) | (simp <;> omega)) _ | with_reducible refine Below.trans ?_ (Below.mono (by assumption) (by first | omega | (simp <;> omega))))))).mono ?_); rintro e w1 ⟨pE, cE, rfl, hrE, hb⟩; have hsz := hb.size; (try simp at hsz)) | (go_at_call 14; (with_reducible refine (kn_same _ _ ps _ _ _ _ (hrB.later (by repeat' (first | with_reducible exact Below.refl _ _ | with_reducible refine Below.drew ?_ | with_reducible refine below_drewN ?_ _ | with_reducible refine Below.alloc ?_ (by first | omega | (simp <;> omega)) _ | with_reducible refine Below.setCell ?_ (by first | omega | (dsimp only; omega) | (simp <;> omega)) _ | with_reducible refine Below.trans ?_ (Below.mono (by assumption) (by first | omega | (simp <;> omega)))))) (hrC.later (by repeat' (first | with_reducible exact Below.refl _ _ | with_reducible refine Below.drew ?_ | with_reducible refine below_drewN ?_ _ | with_reducible refine Below.alloc ?_ (by first | omega | (simp <;> omega)) _ | with_reducible refine Below.setCell ?_ (by first | omega | (dsimp only; omega) | (simp <;> omega)) _ | with_reducible refine Below.trans ?_ (Below.mono (by assumption) (by first | omega | (simp <;> omega)))))) HM.out hm).mono ?_); rintro e w1 ⟨rfl, hb⟩; have hsz := hb.size; (try simp at hsz)) | (go_at_call 14; (with_reducible refine (kn_same _ _ ds _ _ _ _ (hrD.later (by repeat' (first | with_reducible exact Below.refl _ _ | with_reducible refine Below.drew ?_ | with_reducible refine below_drewN ?_ _ | with_reducible refine Below.alloc ?_ (by first | omega | (simp <;> omega)) _ | with_reducible refine Below.setCell ?_ (by first | omega | (dsimp only; omega) | (simp <;> omega)) _ | with_reducible refine Below.trans ?_ (Below.mono (by assumption) (by first | omega | (simp <;> omega)))))) (hrE.later (by repeat' (first | with_reducible exact Below.refl _ _ | with_reducible refine Below.drew ?_ | with_reducible refine below_drewN ?_ _ | with_reducible refine Below.alloc ?_ (by first | omega | (simp <;> omega)) _ | with_reducible refine Below.setCell ?_ (by first | omega | (dsimp only; omega) | (simp <;> omega)) _ | with_reducible refine Below.trans ?_ (Below.mono (by assumption) (by first | omega | (simp <;> omega)))))) HD.out hd).mono ?_); rintro e w1 ⟨rfl, hb⟩; have hsz := hb.size; (try simp at hsz)) | (go_at_call 14; (with_reducible refine (kn_same _ _ xs _ _ _ _ (hrA.later (by repeat' (first | with_reducible exact Below.refl _ _ | with_reducible refine Below.drew ?_ | with_reducible refine below_drewN ?_ _ | with_reducible refine Below.alloc ?_ (by first | omega | (simp <;> omega)) _ | with_reducible refine Below.setCell ?_ (by first | omega | (dsimp only; omega) | (simp <;> omega)) _ | with_reducible refine Below.trans ?_ (Below.mono (by assumption) (by first | omega | (simp <;> omega)))))) (ha.later (by repeat' (first | with_reducible exact Below.refl _ _ | with_reducible refine Below.drew ?_ | with_reducible refine below_drewN ?_ _ | with_reducible refine Below.alloc ?_ (by first | omega | (simp <;> omega)) _ | with_reducible refine Below.setCell ?_ (by first | omega | (dsimp only; omega) | (simp <;> omega)) _ | with_reducible refine Below.trans ?_ (Below.mono (by assumption) (by first | omega | (simp <;> omega)))))) rfl hl).mono ?_); rintro e w1 ⟨rfl, hb⟩; have hsz := hb.size; (try simp at hsz)))))
    all_goals go_light
    all_goals (try simp only [beq_iff_eq, beq_eq_false_iff_ne, bne_iff_ne, bne_eq_false_iff_eq, ne_eq] at *)
    all_goals
      refine bodyPost_ret (v := .bool true) (by simp [results, Try.results3, go_sem, *]) rfl ⟨rfl, ?_⟩
      repeat' (first | with_reducible exact Below.refl _ _ | with_reducible refine Below.drew ?_ | with_reducible refine below_drewN ?_ _ | with_reducible refine Below.alloc ?_ (by first | omega | (simp <;> omega)) _ | with_reducible refine Below.setCell ?_ (by first | omega | (dsimp only; omega) | (simp <;> omega)) _ | with_reducible refine Below.trans ?_ (Below.mono (by assumption) (by first | omega | (simp <;> omega))))
end Go.Proofs.Ytmfgkimbehkdeaa
