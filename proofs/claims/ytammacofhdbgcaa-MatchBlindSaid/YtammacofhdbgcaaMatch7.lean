/-
  Check of a match, walked: of the program and of the reference.
-/
import Derived.Test.YtammacofhdbgcaaRows
import Derived.Test.YtammacofhdbgcaaMatch6
import Derived.Test.YtammacofhdbgcaaWindow2
import Derived.Test.YtammacofhdbgcaaCommon
import Derived.Deep.Light
import Derived.Shelf.Abstract
import Derived.Shelf.RegionOpen
import Derived.OwnWalkIn
import Derived.TacticsInMore
import Derived.LoopNIn
import Derived.LoopIn
import Derived.Outline
namespace Go.Proofs.Ytammacofhdbgcaa
open Go.RowKit
set_option linter.unusedSimpArgs false
set_option linter.unusedVariables false
open Go.Shelf
attribute [local go_sem] Oper.semAt_some

/-- The error of a match. -/
def mchk (s : ByteArray) (p e l : Int) (d n : Int) : Int :=
  if wchk s.size p e l ≠ 0 then wchk s.size p e l else if d < 1 ∨ p < d ∨ (2 : Int) ^ l.toNat < d ∨ n < 4 ∨ e - p < n then 2 else if (wcom s (p - d) p e).1 ≠ n then 10 else 0

set_option maxHeartbeats 4000000 in
theorem mcheck_p (s : ByteArray) (p e l md ml mv mg : Int) (w : World) (hl : s.size ≤ 9223372036854775807) :
    Calls Try.prog 29 #[.string s, .int .i64 p, .int .i64 e, .int .i64 l, .agg #[.int .i64 md, .int .i64 ml, .int .i64 mv, .int .i64 mg]] w fun e' w' => e' = .returned (.int .i64 (mchk s p e l md ml)) ∧ Below w.heap.size w w' := by
  have q1 := fun w => wcheck_p s p e l w hl
  unfold mchk
  by_cases h0 : wchk s.size p e l = 0
  · rw [if_neg (by simpa using h0)]
    rw [h0] at q1
    obtain ⟨_, w1, w2, w3, w4, w5⟩ := wchk_ok h0
    obtain ⟨m, rfl⟩ : ∃ m : Nat, l = (m : Int) := ⟨l.toNat, by omega⟩
    have hp := pow_le (l := (m : Int)) (by omega)
    rw [Int.toNat_natCast] at hp ⊢
    obtain ⟨P, hP⟩ : ∃ P, (2 : Int) ^ m = P := ⟨_, rfl⟩
    rw [hP] at hp ⊢
    have gP : wrap64 ((2 : Int) ^ m) = P := by rw [hP]; exact IntWalk.wrap64_in _ (by omega)
    obtain ⟨p1, p2⟩ := hp
    have HPP := Lib.hid hP
    clear hP h0
    by_cases h1 : md < 1 ∨ p < md ∨ P < md ∨ ml < 4 ∨ e - p < ml
    · rw [if_pos h1]
      have hx : md < 1 ∨ (¬ md < 1 ∧ (p < md ∨ (¬ p < md ∧ (P < md ∨ (¬ P < md ∧ (ml < 4 ∨ (¬ ml < 4 ∧ e - p < ml))))))) := by omega
      clear h1
      rcases hx with g1 | ⟨g1, g2 | ⟨g2, g3 | ⟨g3, g4 | ⟨g4, g5⟩⟩⟩⟩
      all_goals
        go_enter Try.func29, Try.ntmps29
        go_wp2_with (first | (go_at_call 51; refine (q1 _).mono ?_; rintro e w1 ⟨rfl, hb⟩; have hsz := hb.size; (try simp at hsz); (first | (have hbl := blater2 HA (by first | exact Nat.le_refl _ | (simp; done) | (simp; omega)) hb; obtain ⟨hcc, hff, HA, hne, hne'⟩ := hbl) | (obtain ⟨hcc, hff, HA, hne, hne'⟩ := blater1 hb)); (try simp only [World.size_alloc, World.size_setCell] at HA)) | (go_at_call 65; refine (q2 _).mono ?_; rintro e w1 ⟨rfl, hb⟩; have hsz := hb.size; (try simp at hsz); (first | (have hbl := blater2 HA (by first | exact Nat.le_refl _ | (simp; done) | (simp; omega)) hb; obtain ⟨hcc, hff, HA, hne, hne'⟩ := hbl) | (obtain ⟨hcc, hff, HA, hne, hne'⟩ := blater1 hb)); (try simp only [World.size_alloc, World.size_setCell] at HA)))
        go_light
        refine bodyPost_ret (v := .int .i64 (2)) (by simp [results, Try.results29, go_sem, *]) rfl ⟨rfl, ?_⟩
        repeat' (first | exact Below.refl _ _ | refine Below.drew ?_ | refine below_drewN ?_ _ | refine Below.alloc ?_ (by first | omega | (simp <;> omega)) _ | refine Below.setCell ?_ (by first | omega | (simp <;> omega)) _ | refine Below.trans ?_ (Below.mono (by assumption) (by first | omega | (simp <;> omega))))
    · rw [if_neg h1]
      have g1 : ¬ md < 1 := by omega
      have g2 : ¬ p < md := by omega
      have g3 : ¬ P < md := by omega
      have g4 : ¬ ml < 4 := by omega
      have g5 : ¬ e - p < ml := by omega
      have q2 := fun w => wcommon_p s (p - md) p e w hl
      generalize wcom s (p - md) p e = C at q2
      obtain ⟨C1, C2⟩ := C
      dsimp only at q2
      clear h1
      by_cases h2 : C1 = ml
      · have h3 : (C1 != ml) = false := by simpa using h2
        rw [if_neg (by simpa using h2)]
        clear h2
        go_enter Try.func29, Try.ntmps29
        go_wp2_with (first | (go_at_call 51; refine (q1 _).mono ?_; rintro e w1 ⟨rfl, hb⟩; have hsz := hb.size; (try simp at hsz); (first | (have hbl := blater2 HA (by first | exact Nat.le_refl _ | (simp; done) | (simp; omega)) hb; obtain ⟨hcc, hff, HA, hne, hne'⟩ := hbl) | (obtain ⟨hcc, hff, HA, hne, hne'⟩ := blater1 hb)); (try simp only [World.size_alloc, World.size_setCell] at HA)) | (go_at_call 65; refine (q2 _).mono ?_; rintro e w1 ⟨rfl, hb⟩; have hsz := hb.size; (try simp at hsz); (first | (have hbl := blater2 HA (by first | exact Nat.le_refl _ | (simp; done) | (simp; omega)) hb; obtain ⟨hcc, hff, HA, hne, hne'⟩ := hbl) | (obtain ⟨hcc, hff, HA, hne, hne'⟩ := blater1 hb)); (try simp only [World.size_alloc, World.size_setCell] at HA)))
        go_light
        refine bodyPost_ret (v := .int .i64 (0)) (by simp [results, Try.results29, go_sem, *]) rfl ⟨rfl, ?_⟩
        repeat' (first | exact Below.refl _ _ | refine Below.drew ?_ | refine below_drewN ?_ _ | refine Below.alloc ?_ (by first | omega | (simp <;> omega)) _ | refine Below.setCell ?_ (by first | omega | (simp <;> omega)) _ | refine Below.trans ?_ (Below.mono (by assumption) (by first | omega | (simp <;> omega))))
      · have h3 : (C1 != ml) = true := by simpa using h2
        rw [if_pos h2]
        clear h2
        go_enter Try.func29, Try.ntmps29
        go_wp2_with (first | (go_at_call 51; refine (q1 _).mono ?_; rintro e w1 ⟨rfl, hb⟩; have hsz := hb.size; (try simp at hsz); (first | (have hbl := blater2 HA (by first | exact Nat.le_refl _ | (simp; done) | (simp; omega)) hb; obtain ⟨hcc, hff, HA, hne, hne'⟩ := hbl) | (obtain ⟨hcc, hff, HA, hne, hne'⟩ := blater1 hb)); (try simp only [World.size_alloc, World.size_setCell] at HA)) | (go_at_call 65; refine (q2 _).mono ?_; rintro e w1 ⟨rfl, hb⟩; have hsz := hb.size; (try simp at hsz); (first | (have hbl := blater2 HA (by first | exact Nat.le_refl _ | (simp; done) | (simp; omega)) hb; obtain ⟨hcc, hff, HA, hne, hne'⟩ := hbl) | (obtain ⟨hcc, hff, HA, hne, hne'⟩ := blater1 hb)); (try simp only [World.size_alloc, World.size_setCell] at HA)))
        go_light
        refine bodyPost_ret (v := .int .i64 (10)) (by simp [results, Try.results29, go_sem, *]) rfl ⟨rfl, ?_⟩
        repeat' (first | exact Below.refl _ _ | refine Below.drew ?_ | refine below_drewN ?_ _ | refine Below.alloc ?_ (by first | omega | (simp <;> omega)) _ | refine Below.setCell ?_ (by first | omega | (simp <;> omega)) _ | refine Below.trans ?_ (Below.mono (by assumption) (by first | omega | (simp <;> omega))))
  · rw [if_pos h0]
    obtain ⟨z, hz⟩ : ∃ z, wchk s.size p e l = z := ⟨_, rfl⟩
    rw [hz] at q1 h0 ⊢
    have h1 : (z != 0) = true := by simpa using h0
    clear hz h0
    go_enter Try.func29, Try.ntmps29
    go_wp2_with (first | (go_at_call 51; refine (q1 _).mono ?_; rintro e w1 ⟨rfl, hb⟩; have hsz := hb.size; (try simp at hsz); (first | (have hbl := blater2 HA (by first | exact Nat.le_refl _ | (simp; done) | (simp; omega)) hb; obtain ⟨hcc, hff, HA, hne, hne'⟩ := hbl) | (obtain ⟨hcc, hff, HA, hne, hne'⟩ := blater1 hb)); (try simp only [World.size_alloc, World.size_setCell] at HA)) | (go_at_call 65; refine (q2 _).mono ?_; rintro e w1 ⟨rfl, hb⟩; have hsz := hb.size; (try simp at hsz); (first | (have hbl := blater2 HA (by first | exact Nat.le_refl _ | (simp; done) | (simp; omega)) hb; obtain ⟨hcc, hff, HA, hne, hne'⟩ := hbl) | (obtain ⟨hcc, hff, HA, hne, hne'⟩ := blater1 hb)); (try simp only [World.size_alloc, World.size_setCell] at HA)))
    go_light
    refine bodyPost_ret (v := .int .i64 (z)) (by simp [results, Try.results29, go_sem, *]) rfl ⟨rfl, ?_⟩
    repeat' (first | exact Below.refl _ _ | refine Below.drew ?_ | refine below_drewN ?_ _ | refine Below.alloc ?_ (by first | omega | (simp <;> omega)) _ | refine Below.setCell ?_ (by first | omega | (simp <;> omega)) _ | refine Below.trans ?_ (Below.mono (by assumption) (by first | omega | (simp <;> omega))))

set_option maxHeartbeats 4000000 in
theorem rmcheck_p (s : ByteArray) (p e l md ml mv mg : Int) (w : World) (hl : s.size ≤ 9223372036854775807) :
    Calls Try.prog 32 #[.string s, .int .i64 p, .int .i64 e, .int .i64 l, .agg #[.int .i64 md, .int .i64 ml, .int .i64 mv, .int .i64 mg]] w fun e' w' => e' = .returned (.int .i64 (mchk s p e l md ml)) ∧ Below w.heap.size w w' := by
  have q1 := fun w => rwcheck_p s p e l w hl
  unfold mchk
  by_cases h0 : wchk s.size p e l = 0
  · rw [if_neg (by simpa using h0)]
    rw [h0] at q1
    obtain ⟨_, w1, w2, w3, w4, w5⟩ := wchk_ok h0
    obtain ⟨m, rfl⟩ : ∃ m : Nat, l = (m : Int) := ⟨l.toNat, by omega⟩
    have hp := pow_le (l := (m : Int)) (by omega)
    rw [Int.toNat_natCast] at hp ⊢
    obtain ⟨P, hP⟩ : ∃ P, (2 : Int) ^ m = P := ⟨_, rfl⟩
    rw [hP] at hp ⊢
    have gP : wrap64 ((2 : Int) ^ m) = P := by rw [hP]; exact IntWalk.wrap64_in _ (by omega)
    obtain ⟨p1, p2⟩ := hp
    have HPP := Lib.hid hP
    clear hP h0
    by_cases h1 : md < 1 ∨ p < md ∨ P < md ∨ ml < 4 ∨ e - p < ml
    · rw [if_pos h1]
      have hx : md < 1 ∨ (¬ md < 1 ∧ (p < md ∨ (¬ p < md ∧ (P < md ∨ (¬ P < md ∧ (ml < 4 ∨ (¬ ml < 4 ∧ e - p < ml))))))) := by omega
      clear h1
      rcases hx with g1 | ⟨g1, g2 | ⟨g2, g3 | ⟨g3, g4 | ⟨g4, g5⟩⟩⟩⟩
      all_goals
        go_enter Try.func32, Try.ntmps32
        go_wp2_with (first | (go_at_call 55; refine (q1 _).mono ?_; rintro e w1 ⟨rfl, hb⟩; have hsz := hb.size; (try simp at hsz); (first | (have hbl := blater2 HA (by first | exact Nat.le_refl _ | (simp; done) | (simp; omega)) hb; obtain ⟨hcc, hff, HA, hne, hne'⟩ := hbl) | (obtain ⟨hcc, hff, HA, hne, hne'⟩ := blater1 hb)); (try simp only [World.size_alloc, World.size_setCell] at HA)) | (go_at_call 58; refine (q2 _).mono ?_; rintro e w1 ⟨rfl, hb⟩; have hsz := hb.size; (try simp at hsz); (first | (have hbl := blater2 HA (by first | exact Nat.le_refl _ | (simp; done) | (simp; omega)) hb; obtain ⟨hcc, hff, HA, hne, hne'⟩ := hbl) | (obtain ⟨hcc, hff, HA, hne, hne'⟩ := blater1 hb)); (try simp only [World.size_alloc, World.size_setCell] at HA)))
        go_light
        refine bodyPost_ret (v := .int .i64 (2)) (by simp [results, Try.results32, go_sem, *]) rfl ⟨rfl, ?_⟩
        repeat' (first | exact Below.refl _ _ | refine Below.drew ?_ | refine below_drewN ?_ _ | refine Below.alloc ?_ (by first | omega | (simp <;> omega)) _ | refine Below.setCell ?_ (by first | omega | (simp <;> omega)) _ | refine Below.trans ?_ (Below.mono (by assumption) (by first | omega | (simp <;> omega))))
    · rw [if_neg h1]
      have g1 : ¬ md < 1 := by omega
      have g2 : ¬ p < md := by omega
      have g3 : ¬ P < md := by omega
      have g4 : ¬ ml < 4 := by omega
      have g5 : ¬ e - p < ml := by omega
      have q2 := fun w => rcommon_p s (p - md) p e w hl
      generalize wcom s (p - md) p e = C at q2
      obtain ⟨C1, C2⟩ := C
      dsimp only at q2
      clear h1
      by_cases h2 : C1 = ml
      · have h3 : (C1 != ml) = false := by simpa using h2
        rw [if_neg (by simpa using h2)]
        clear h2
        go_enter Try.func32, Try.ntmps32
        go_wp2_with (first | (go_at_call 55; refine (q1 _).mono ?_; rintro e w1 ⟨rfl, hb⟩; have hsz := hb.size; (try simp at hsz); (first | (have hbl := blater2 HA (by first | exact Nat.le_refl _ | (simp; done) | (simp; omega)) hb; obtain ⟨hcc, hff, HA, hne, hne'⟩ := hbl) | (obtain ⟨hcc, hff, HA, hne, hne'⟩ := blater1 hb)); (try simp only [World.size_alloc, World.size_setCell] at HA)) | (go_at_call 58; refine (q2 _).mono ?_; rintro e w1 ⟨rfl, hb⟩; have hsz := hb.size; (try simp at hsz); (first | (have hbl := blater2 HA (by first | exact Nat.le_refl _ | (simp; done) | (simp; omega)) hb; obtain ⟨hcc, hff, HA, hne, hne'⟩ := hbl) | (obtain ⟨hcc, hff, HA, hne, hne'⟩ := blater1 hb)); (try simp only [World.size_alloc, World.size_setCell] at HA)))
        go_light
        refine bodyPost_ret (v := .int .i64 (0)) (by simp [results, Try.results32, go_sem, *]) rfl ⟨rfl, ?_⟩
        repeat' (first | exact Below.refl _ _ | refine Below.drew ?_ | refine below_drewN ?_ _ | refine Below.alloc ?_ (by first | omega | (simp <;> omega)) _ | refine Below.setCell ?_ (by first | omega | (simp <;> omega)) _ | refine Below.trans ?_ (Below.mono (by assumption) (by first | omega | (simp <;> omega))))
      · have h3 : (C1 != ml) = true := by simpa using h2
        rw [if_pos h2]
        clear h2
        go_enter Try.func32, Try.ntmps32
        go_wp2_with (first | (go_at_call 55; refine (q1 _).mono ?_; rintro e w1 ⟨rfl, hb⟩; have hsz := hb.size; (try simp at hsz); (first | (have hbl := blater2 HA (by first | exact Nat.le_refl _ | (simp; done) | (simp; omega)) hb; obtain ⟨hcc, hff, HA, hne, hne'⟩ := hbl) | (obtain ⟨hcc, hff, HA, hne, hne'⟩ := blater1 hb)); (try simp only [World.size_alloc, World.size_setCell] at HA)) | (go_at_call 58; refine (q2 _).mono ?_; rintro e w1 ⟨rfl, hb⟩; have hsz := hb.size; (try simp at hsz); (first | (have hbl := blater2 HA (by first | exact Nat.le_refl _ | (simp; done) | (simp; omega)) hb; obtain ⟨hcc, hff, HA, hne, hne'⟩ := hbl) | (obtain ⟨hcc, hff, HA, hne, hne'⟩ := blater1 hb)); (try simp only [World.size_alloc, World.size_setCell] at HA)))
        go_light
        refine bodyPost_ret (v := .int .i64 (10)) (by simp [results, Try.results32, go_sem, *]) rfl ⟨rfl, ?_⟩
        repeat' (first | exact Below.refl _ _ | refine Below.drew ?_ | refine below_drewN ?_ _ | refine Below.alloc ?_ (by first | omega | (simp <;> omega)) _ | refine Below.setCell ?_ (by first | omega | (simp <;> omega)) _ | refine Below.trans ?_ (Below.mono (by assumption) (by first | omega | (simp <;> omega))))
  · rw [if_pos h0]
    obtain ⟨z, hz⟩ : ∃ z, wchk s.size p e l = z := ⟨_, rfl⟩
    rw [hz] at q1 h0 ⊢
    have h1 : (z != 0) = true := by simpa using h0
    clear hz h0
    go_enter Try.func32, Try.ntmps32
    go_wp2_with (first | (go_at_call 55; refine (q1 _).mono ?_; rintro e w1 ⟨rfl, hb⟩; have hsz := hb.size; (try simp at hsz); (first | (have hbl := blater2 HA (by first | exact Nat.le_refl _ | (simp; done) | (simp; omega)) hb; obtain ⟨hcc, hff, HA, hne, hne'⟩ := hbl) | (obtain ⟨hcc, hff, HA, hne, hne'⟩ := blater1 hb)); (try simp only [World.size_alloc, World.size_setCell] at HA)) | (go_at_call 58; refine (q2 _).mono ?_; rintro e w1 ⟨rfl, hb⟩; have hsz := hb.size; (try simp at hsz); (first | (have hbl := blater2 HA (by first | exact Nat.le_refl _ | (simp; done) | (simp; omega)) hb; obtain ⟨hcc, hff, HA, hne, hne'⟩ := hbl) | (obtain ⟨hcc, hff, HA, hne, hne'⟩ := blater1 hb)); (try simp only [World.size_alloc, World.size_setCell] at HA)))
    go_light
    refine bodyPost_ret (v := .int .i64 (z)) (by simp [results, Try.results32, go_sem, *]) rfl ⟨rfl, ?_⟩
    repeat' (first | exact Below.refl _ _ | refine Below.drew ?_ | refine below_drewN ?_ _ | refine Below.alloc ?_ (by first | omega | (simp <;> omega)) _ | refine Below.setCell ?_ (by first | omega | (simp <;> omega)) _ | refine Below.trans ?_ (Below.mono (by assumption) (by first | omega | (simp <;> omega))))
end Go.Proofs.Ytammacofhdbgcaa
