/-
  Candidates and the nearest one, whole.
-/
import Derived.Test.YtammacofhdbgcaaRows
import Derived.Test.YtammacofhdbgcaaWindow8
import Derived.WalkMore
import Derived.Test.YtammacofhdbgcaaCommon
import Derived.Deep.Light
import Derived.Shelf.Abstract
import Derived.Shelf.RegionOpen
import Derived.OwnWalkIn
import Derived.TacticsInMore
import Derived.LoopNIn
import Derived.LoopIn
import Derived.Maps.OwnIn
namespace Go.Proofs.Ytammacofhdbgcaa
open Go.RowKit
set_option linter.unusedSimpArgs false
set_option linter.unusedVariables false
attribute [local go_sem] Oper.semAt_some

/-- What Candidates returns. -/
def wcandR (s : ByteArray) (p e l most : Int) : List Nat × Int := if wchk s.size p e l = 0 then (if 0 ≤ most ∧ most ≤ 64 then (cands s p.toNat e.toNat l.toNat most.toNat, 0) else ([], 2)) else ([], wchk s.size p e l)
/-- What Nearest returns. -/
def wnearR (s : ByteArray) (p e l : Int) : Int × Bool × Int := match (wcandR s p e l 1).1 with
  | [] => (0, false, (wcandR s p e l 1).2)
  | x :: _ => ((x : Int), true, 0)
theorem wcandR_err {s : ByteArray} {p e l most : Int} (h : (wcandR s p e l most).1 ≠ []) : (wcandR s p e l most).2 = 0 := by
  unfold wcandR at h ⊢
  split <;> (try split) <;> simp_all

set_option maxHeartbeats 1000000 in
theorem cand_p (s : ByteArray) (p e l most : Int) (w : World) (hl : s.size ≤ 9223372036854775807) :
    Calls Try.prog 53 #[.string s, .int .i64 p, .int .i64 e, .int .i64 l, .int .i64 most] w (CandPost (wcandR s p e l most) w) := by
  unfold wcandR
  have q1 := fun w => wcheck_p s p e l w hl
  by_cases hc : wchk s.size p e l = 0
  · rw [if_pos hc]
    obtain ⟨h1, h2, h3, h4, h5, h6⟩ := wchk_ok hc
    by_cases hm : 0 ≤ most ∧ most ≤ 64
    · rw [if_pos hm]
      obtain ⟨p, rfl⟩ : ∃ n : Nat, p = (n : Int) := ⟨p.toNat, by omega⟩
      obtain ⟨e, rfl⟩ : ∃ n : Nat, e = (n : Int) := ⟨e.toNat, by omega⟩
      obtain ⟨l, rfl⟩ : ∃ n : Nat, l = (n : Int) := ⟨l.toNat, by omega⟩
      obtain ⟨most, rfl⟩ : ∃ n : Nat, most = (n : Int) := ⟨most.toNat, by omega⟩
      simp only [Int.toNat_natCast]
      have e5 : cands s p e l most = (candAll s p e l).take most := by
        unfold cands candAll
        split <;> simp
      rw [e5]
      refine (cand_1 s p e l most w h1 (by omega) (by omega) (by omega) (by omega) (by omega) hc _ rfl).mono ?_
      rintro e' w' ⟨a, cap, h6, h7, h8, h9⟩
      exact ⟨a, cap, h6, h7, h8, h9⟩
    · rw [if_neg hm]
      rw [hc] at q1
      have hm2 : most < 0 ∨ (¬ most < 0 ∧ 64 < most) := by omega
      clear hc h1 h2 h3 h4 h5 h6 hm
      rcases hm2 with g1 | ⟨g1, g2⟩
      all_goals
        refine calls_of_marks Try.func53 rfl ?_
        simp only [Try.ntmps53, List.size_toArray, List.length_cons, List.length_nil, Nat.reduceAdd, Nat.reduceSub, Array.replicate_succ, Array.replicate_zero, List.push_toArray, List.append_toArray, List.nil_append, List.cons_append]
        go_wp2_with (first | (go_at_call 51; refine (q1 _).mono ?_; rintro e w1 ⟨rfl, hb⟩; have hsz := hb.size; (try simp at hsz); (first | (have hbl := blater2 HA (by first | exact Nat.le_refl _ | (simp; done) | (simp; omega)) hb; obtain ⟨hcc, hff, HA, hne, hne'⟩ := hbl) | (obtain ⟨hcc, hff, HA, hne, hne'⟩ := blater1 hb)); (try simp only [World.size_alloc, World.size_setCell] at HA)) | go_in)
        repeat' (first | (go_region <;> go_wp2_with (first | (go_at_call 51; refine (q1 _).mono ?_; rintro e w1 ⟨rfl, hb⟩; have hsz := hb.size; (try simp at hsz); (first | (have hbl := blater2 HA (by first | exact Nat.le_refl _ | (simp; done) | (simp; omega)) hb; obtain ⟨hcc, hff, HA, hne, hne'⟩ := hbl) | (obtain ⟨hcc, hff, HA, hne, hne'⟩ := blater1 hb)); (try simp only [World.size_alloc, World.size_setCell] at HA)) | go_in)))
        all_goals go_light
        all_goals (try simp only [beq_iff_eq, beq_eq_false_iff_ne, bne_iff_ne, bne_eq_false_iff_eq, ne_eq] at *)
        all_goals (refine ⟨_, results_tmp2 rfl _ _ _, ?_⟩; exact ⟨none, 0, by simp, by simp only [Array.getD_eq_getD_getElem?]; simp [*], .inl rfl, by repeat' (first | exact Below.refl _ _ | refine Below.drew ?_ | refine below_drewN ?_ _ | refine Below.alloc ?_ (by first | omega | (simp <;> omega)) _ | refine Below.setCell ?_ (by first | omega | (simp <;> omega)) _ | refine Below.trans ?_ (Below.mono (by assumption) (by first | omega | (simp <;> omega))))⟩)
  · rw [if_neg hc]
    obtain ⟨E, hE⟩ : ∃ E, wchk s.size p e l = E := ⟨_, rfl⟩
    rw [hE] at q1 hc ⊢
    have h0 : (E != 0) = true := by simpa using hc
    have h00 : (E == 0) = false := by simpa using hc
    clear hc hE
    refine calls_of_marks Try.func53 rfl ?_
    simp only [Try.ntmps53, List.size_toArray, List.length_cons, List.length_nil, Nat.reduceAdd, Nat.reduceSub, Array.replicate_succ, Array.replicate_zero, List.push_toArray, List.append_toArray, List.nil_append, List.cons_append]
    go_wp2_with (first | (go_at_call 51; refine (q1 _).mono ?_; rintro e w1 ⟨rfl, hb⟩; have hsz := hb.size; (try simp at hsz); (first | (have hbl := blater2 HA (by first | exact Nat.le_refl _ | (simp; done) | (simp; omega)) hb; obtain ⟨hcc, hff, HA, hne, hne'⟩ := hbl) | (obtain ⟨hcc, hff, HA, hne, hne'⟩ := blater1 hb)); (try simp only [World.size_alloc, World.size_setCell] at HA)) | go_in)
    repeat' (first | (go_region <;> go_wp2_with (first | (go_at_call 51; refine (q1 _).mono ?_; rintro e w1 ⟨rfl, hb⟩; have hsz := hb.size; (try simp at hsz); (first | (have hbl := blater2 HA (by first | exact Nat.le_refl _ | (simp; done) | (simp; omega)) hb; obtain ⟨hcc, hff, HA, hne, hne'⟩ := hbl) | (obtain ⟨hcc, hff, HA, hne, hne'⟩ := blater1 hb)); (try simp only [World.size_alloc, World.size_setCell] at HA)) | go_in)))
    all_goals go_light
    all_goals (try simp only [beq_iff_eq, beq_eq_false_iff_ne, bne_iff_ne, bne_eq_false_iff_eq, ne_eq] at *)
    all_goals (refine ⟨_, results_tmp2 rfl _ _ _, ?_⟩; exact ⟨none, 0, by simp, by simp only [Array.getD_eq_getD_getElem?]; simp [*], .inl rfl, by repeat' (first | exact Below.refl _ _ | refine Below.drew ?_ | refine below_drewN ?_ _ | refine Below.alloc ?_ (by first | omega | (simp <;> omega)) _ | refine Below.setCell ?_ (by first | omega | (simp <;> omega)) _ | refine Below.trans ?_ (Below.mono (by assumption) (by first | omega | (simp <;> omega))))⟩)

set_option maxHeartbeats 1000000 in
theorem rcand_p (s : ByteArray) (p e l most : Int) (w : World) (hl : s.size ≤ 9223372036854775807) :
    Calls Try.prog 57 #[.string s, .int .i64 p, .int .i64 e, .int .i64 l, .int .i64 most] w (CandPost (wcandR s p e l most) w) := by
  unfold wcandR
  have q1 := fun w => rwcheck_p s p e l w hl
  by_cases hc : wchk s.size p e l = 0
  · rw [if_pos hc]
    obtain ⟨h1, h2, h3, h4, h5, h6⟩ := wchk_ok hc
    by_cases hm : 0 ≤ most ∧ most ≤ 64
    · rw [if_pos hm]
      obtain ⟨p, rfl⟩ : ∃ n : Nat, p = (n : Int) := ⟨p.toNat, by omega⟩
      obtain ⟨e, rfl⟩ : ∃ n : Nat, e = (n : Int) := ⟨e.toNat, by omega⟩
      obtain ⟨l, rfl⟩ : ∃ n : Nat, l = (n : Int) := ⟨l.toNat, by omega⟩
      obtain ⟨most, rfl⟩ : ∃ n : Nat, most = (n : Int) := ⟨most.toNat, by omega⟩
      simp only [Int.toNat_natCast]
      by_cases hep : e - p < 4
      · have e5 : cands s p e l most = [] := by unfold cands; rw [if_pos hep]
        rw [e5]
        have g1 : ¬ (most : Int) < 0 := by omega
        have g2 : ¬ (64 : Int) < (most : Int) := by omega
        have g3 : (e : Int) - (p : Int) < 4 := by omega
        rw [hc] at q1
        clear hc e5 hep
        go_enter Try.func57, Try.ntmps57
        go_wp2_with ((go_at_call 55; refine (q1 _).mono ?_; rintro e w1 ⟨rfl, hb⟩; have hsz := hb.size; (try simp at hsz)))
        repeat' (first | (go_region <;> go_wp2_with ((go_at_call 55; refine (q1 _).mono ?_; rintro e w1 ⟨rfl, hb⟩; have hsz := hb.size; (try simp at hsz)))))
        all_goals go_light
        all_goals (try simp only [beq_iff_eq, beq_eq_false_iff_ne, bne_iff_ne, bne_eq_false_iff_eq, ne_eq] at *)
        all_goals (refine bodyPost_ret (v := .tuple #[.slice none 0 0, .int .i64 0]) (by simp [results, Try.results57, go_sem, *]) rfl ?_; exact ⟨none, 0, by simp, rfl, .inl rfl, by repeat' (first | exact Below.refl _ _ | refine Below.drew ?_ | refine below_drewN ?_ _ | refine Below.alloc ?_ (by first | omega | (simp <;> omega)) _ | refine Below.setCell ?_ (by first | omega | (simp <;> omega)) _ | refine Below.trans ?_ (Below.mono (by assumption) (by first | omega | (simp <;> omega))))⟩)
      · exact rcand_1 s p e l most w h1 (by omega) (by omega) (by omega) (by omega) (by omega) hc hep _ rfl
    · rw [if_neg hm]
      rw [hc] at q1
      have hm2 : most < 0 ∨ (¬ most < 0 ∧ 64 < most) := by omega
      clear hc h1 h2 h3 h4 h5 h6 hm
      rcases hm2 with g1 | ⟨g1, g2⟩
      all_goals
        go_enter Try.func57, Try.ntmps57
        go_wp2_with ((go_at_call 55; refine (q1 _).mono ?_; rintro e w1 ⟨rfl, hb⟩; have hsz := hb.size; (try simp at hsz)))
        repeat' (first | (go_region <;> go_wp2_with ((go_at_call 55; refine (q1 _).mono ?_; rintro e w1 ⟨rfl, hb⟩; have hsz := hb.size; (try simp at hsz)))))
        all_goals go_light
        all_goals (try simp only [beq_iff_eq, beq_eq_false_iff_ne, bne_iff_ne, bne_eq_false_iff_eq, ne_eq] at *)
        all_goals (refine bodyPost_ret (v := .tuple #[.slice none 0 0, .int .i64 2]) (by simp [results, Try.results57, go_sem, *]) rfl ?_; exact ⟨none, 0, by simp, rfl, .inl rfl, by repeat' (first | exact Below.refl _ _ | refine Below.drew ?_ | refine below_drewN ?_ _ | refine Below.alloc ?_ (by first | omega | (simp <;> omega)) _ | refine Below.setCell ?_ (by first | omega | (simp <;> omega)) _ | refine Below.trans ?_ (Below.mono (by assumption) (by first | omega | (simp <;> omega))))⟩)
  · rw [if_neg hc]
    obtain ⟨E, hE⟩ : ∃ E, wchk s.size p e l = E := ⟨_, rfl⟩
    rw [hE] at q1 hc ⊢
    have h0 : (E != 0) = true := by simpa using hc
    have h00 : (E == 0) = false := by simpa using hc
    clear hc hE
    go_enter Try.func57, Try.ntmps57
    go_wp2_with ((go_at_call 55; refine (q1 _).mono ?_; rintro e w1 ⟨rfl, hb⟩; have hsz := hb.size; (try simp at hsz)))
    repeat' (first | (go_region <;> go_wp2_with ((go_at_call 55; refine (q1 _).mono ?_; rintro e w1 ⟨rfl, hb⟩; have hsz := hb.size; (try simp at hsz)))))
    all_goals go_light
    all_goals (try simp only [beq_iff_eq, beq_eq_false_iff_ne, bne_iff_ne, bne_eq_false_iff_eq, ne_eq] at *)
    all_goals (refine bodyPost_ret (v := .tuple #[.slice none 0 0, .int .i64 E]) (by simp [results, Try.results57, go_sem, *]) rfl ?_; exact ⟨none, 0, by simp, rfl, .inl rfl, by repeat' (first | exact Below.refl _ _ | refine Below.drew ?_ | refine below_drewN ?_ _ | refine Below.alloc ?_ (by first | omega | (simp <;> omega)) _ | refine Below.setCell ?_ (by first | omega | (simp <;> omega)) _ | refine Below.trans ?_ (Below.mono (by assumption) (by first | omega | (simp <;> omega))))⟩)

end Go.Proofs.Ytammacofhdbgcaa
