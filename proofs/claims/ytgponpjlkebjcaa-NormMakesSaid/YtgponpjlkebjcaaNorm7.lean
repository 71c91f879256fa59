/-
  With and Of of package norm, whole.
-/
import Derived.Test.YtgponpjlkebjcaaRows
import Derived.Test.YtgponpjlkebjcaaNorm5
import Derived.Test.YtgponpjlkebjcaaCommon
import Derived.Deep.Light
import Derived.Shelf.Abstract
import Derived.Shelf.RegionOpen
import Derived.OwnWalkIn
import Derived.TacticsInMore
import Derived.LoopNIn
import Derived.LoopIn
import Derived.Outline
namespace Go.Proofs.Ytgponpjlkebjcaa
open Go.RowKit
set_option linter.unusedSimpArgs false
set_option linter.unusedVariables false
open Go.Shelf
attribute [local go_sem] Oper.semAt_some

set_option maxHeartbeats 2000000 in
theorem with_p (a : Option Addr) (xs : List Int) (cap : Nat) (log : Int) (w : World) (ha : Row .i64 w a xs) (hl : xs.length ≤ 9223372036854775807) :
    Calls Try.prog 48 #[.slice a xs.length cap, .int .i64 log] w (DistPost (rWith xs log) w) := by
  have q1 := fun w h => checked_p a xs cap w h hl
  unfold rWith
  by_cases h0 : (rChk xs).2.2 = 0
  · rw [if_neg (by simpa using h0)]
    obtain ⟨t, d, e1, HC, HT, HD, hd, ht, ht2, hd2, hdl⟩ := rChk_ok h0
    rw [e1] at q1 ⊢
    dsimp only at q1 ⊢
    by_cases h1 : log < 5 ∨ 12 < log
    · rw [if_pos h1]
      have h2 : log < 5 ∨ (¬ log < 5 ∧ 12 < log) := by omega
      clear h1 h0 e1
      rcases h2 with g1 | ⟨g1, g2⟩
      all_goals
        refine calls_of_marks Try.func48 rfl ?_
        simp only [Try.ntmps48, List.size_toArray, List.length_cons, List.length_nil, Nat.reduceAdd, Nat.reduceSub, Array.replicate_succ, Array.replicate_zero, List.push_toArray, List.append_toArray, List.nil_append, List.cons_append]
        go_wp2
        go_step3
        go_wp2_with (first | (go_at_call 59; refine (q1 _ (ha.later (by repeat' (first | exact Below.refl _ _ | refine Below.drew ?_ | refine below_drewN ?_ _ | refine Below.alloc ?_ (by first | omega | (simp <;> omega)) _ | refine Below.setCell ?_ (by first | omega | (simp <;> omega)) _ | refine Below.trans ?_ (Below.mono (by assumption) (by first | omega | (simp <;> omega))))))).mono ?_; rintro e w1 ⟨rfl, hb1⟩; have hs1 := hb1.size; (try simp at hs1); have y3 : w1.cell? ⟨w.heap.size, 0, none⟩ = some (.int .i64 log) := (hb1.cell (p := ⟨w.heap.size, 0, none⟩) (by simp <;> omega)).trans (by simp [go_sem]); have y4 : w1.cell? ⟨w.heap.size + 1, 0, none⟩ = some (.int .i64 0) := (hb1.cell (p := ⟨w.heap.size + 1, 0, none⟩) (by simp <;> omega)).trans (by simp [go_sem]); have y5 : w1.cell? ⟨w.heap.size + 1, 1, none⟩ = some (.slice none 0 0) := (hb1.cell (p := ⟨w.heap.size + 1, 1, none⟩) (by simp <;> omega)).trans (by simp [go_sem]); have f4 : w1.frozen? ⟨w.heap.size + 1, 0, none⟩ = false := (hb1.frozen (p := ⟨w.heap.size + 1, 0, none⟩) (by simp <;> omega)).trans (by simp [go_sem]); have f5 : w1.frozen? ⟨w.heap.size + 1, 1, none⟩ = false := (hb1.frozen (p := ⟨w.heap.size + 1, 1, none⟩) (by simp <;> omega)).trans (by simp [go_sem]); have l3 : w.heap.size < w1.heap.size := (by omega); have l4 : w.heap.size + 1 < w1.heap.size := (by omega); have n3 : ¬ w.heap.size = w1.heap.size := (by omega); have n4 : ¬ w.heap.size + 1 = w1.heap.size := (by omega); have n5 : ¬ w1.heap.size = w.heap.size := (by omega); have n6 : ¬ w1.heap.size = w.heap.size + 1 := (by omega)) | go_in)
        repeat' (first | (go_region <;> go_wp2_with (first | (go_at_call 59; refine (q1 _ (ha.later (by repeat' (first | exact Below.refl _ _ | refine Below.drew ?_ | refine below_drewN ?_ _ | refine Below.alloc ?_ (by first | omega | (simp <;> omega)) _ | refine Below.setCell ?_ (by first | omega | (simp <;> omega)) _ | refine Below.trans ?_ (Below.mono (by assumption) (by first | omega | (simp <;> omega))))))).mono ?_; rintro e w1 ⟨rfl, hb1⟩; have hs1 := hb1.size; (try simp at hs1); have y3 : w1.cell? ⟨w.heap.size, 0, none⟩ = some (.int .i64 log) := (hb1.cell (p := ⟨w.heap.size, 0, none⟩) (by simp <;> omega)).trans (by simp [go_sem]); have y4 : w1.cell? ⟨w.heap.size + 1, 0, none⟩ = some (.int .i64 0) := (hb1.cell (p := ⟨w.heap.size + 1, 0, none⟩) (by simp <;> omega)).trans (by simp [go_sem]); have y5 : w1.cell? ⟨w.heap.size + 1, 1, none⟩ = some (.slice none 0 0) := (hb1.cell (p := ⟨w.heap.size + 1, 1, none⟩) (by simp <;> omega)).trans (by simp [go_sem]); have f4 : w1.frozen? ⟨w.heap.size + 1, 0, none⟩ = false := (hb1.frozen (p := ⟨w.heap.size + 1, 0, none⟩) (by simp <;> omega)).trans (by simp [go_sem]); have f5 : w1.frozen? ⟨w.heap.size + 1, 1, none⟩ = false := (hb1.frozen (p := ⟨w.heap.size + 1, 1, none⟩) (by simp <;> omega)).trans (by simp [go_sem]); have l3 : w.heap.size < w1.heap.size := (by omega); have l4 : w.heap.size + 1 < w1.heap.size := (by omega); have n3 : ¬ w.heap.size = w1.heap.size := (by omega); have n4 : ¬ w.heap.size + 1 = w1.heap.size := (by omega); have n5 : ¬ w1.heap.size = w.heap.size := (by omega); have n6 : ¬ w1.heap.size = w.heap.size + 1 := (by omega)) | go_in)))
        all_goals (try rw [Exit.noGoto_ret])
        all_goals go_light
        all_goals (refine ⟨.tuple #[.agg #[.int .i64 0, .slice none 0 0], .int .i64 31], by simp [results, Try.results48, go_sem, *], ⟨none, 0, rfl, by simp [Value.ownBlock], .inl rfl, ?_⟩⟩; repeat' (first | exact Below.refl _ _ | refine Below.drew ?_ | refine below_drewN ?_ _ | refine Below.alloc ?_ (by first | omega | (simp <;> omega)) _ | refine Below.setCell ?_ (by first | omega | (simp <;> omega)) _ | refine Below.trans ?_ (Below.mono (by assumption) (by first | omega | (simp <;> omega)))))
    · rw [if_neg h1]
      obtain ⟨l, rfl⟩ : ∃ m : Nat, log = (m : Int) := ⟨log.toNat, by omega⟩
      rw [Int.toNat_natCast]
      have hp := pow12 l (by omega)
      have g1 : ¬ (l : Int) < 5 := by omega
      have g2 : ¬ (12 : Int) < (l : Int) := by omega
      obtain ⟨P, hP⟩ : ∃ P, (2 : Int) ^ l = P := ⟨_, rfl⟩
      rw [hP] at hp ⊢
      obtain ⟨p1, p2⟩ := hp
      by_cases h3 : P < (d : Int)
      · rw [if_pos h3]
        clear h0 e1 h1
        refine calls_of_marks Try.func48 rfl ?_
        simp only [Try.ntmps48, List.size_toArray, List.length_cons, List.length_nil, Nat.reduceAdd, Nat.reduceSub, Array.replicate_succ, Array.replicate_zero, List.push_toArray, List.append_toArray, List.nil_append, List.cons_append]
        go_wp2
        go_step3
        go_wp2_with (first | (go_at_call 59; refine (q1 _ (ha.later (by repeat' (first | exact Below.refl _ _ | refine Below.drew ?_ | refine below_drewN ?_ _ | refine Below.alloc ?_ (by first | omega | (simp <;> omega)) _ | refine Below.setCell ?_ (by first | omega | (simp <;> omega)) _ | refine Below.trans ?_ (Below.mono (by assumption) (by first | omega | (simp <;> omega))))))).mono ?_; rintro e w1 ⟨rfl, hb1⟩; have hs1 := hb1.size; (try simp at hs1); have y3 : w1.cell? ⟨w.heap.size, 0, none⟩ = some (.int .i64 (l : Int)) := (hb1.cell (p := ⟨w.heap.size, 0, none⟩) (by simp <;> omega)).trans (by simp [go_sem]); have y4 : w1.cell? ⟨w.heap.size + 1, 0, none⟩ = some (.int .i64 0) := (hb1.cell (p := ⟨w.heap.size + 1, 0, none⟩) (by simp <;> omega)).trans (by simp [go_sem]); have y5 : w1.cell? ⟨w.heap.size + 1, 1, none⟩ = some (.slice none 0 0) := (hb1.cell (p := ⟨w.heap.size + 1, 1, none⟩) (by simp <;> omega)).trans (by simp [go_sem]); have f4 : w1.frozen? ⟨w.heap.size + 1, 0, none⟩ = false := (hb1.frozen (p := ⟨w.heap.size + 1, 0, none⟩) (by simp <;> omega)).trans (by simp [go_sem]); have f5 : w1.frozen? ⟨w.heap.size + 1, 1, none⟩ = false := (hb1.frozen (p := ⟨w.heap.size + 1, 1, none⟩) (by simp <;> omega)).trans (by simp [go_sem]); have l3 : w.heap.size < w1.heap.size := (by omega); have l4 : w.heap.size + 1 < w1.heap.size := (by omega); have n3 : ¬ w.heap.size = w1.heap.size := (by omega); have n4 : ¬ w.heap.size + 1 = w1.heap.size := (by omega); have n5 : ¬ w1.heap.size = w.heap.size := (by omega); have n6 : ¬ w1.heap.size = w.heap.size + 1 := (by omega)) | go_in)
        repeat' (first | (go_region <;> go_wp2_with (first | (go_at_call 59; refine (q1 _ (ha.later (by repeat' (first | exact Below.refl _ _ | refine Below.drew ?_ | refine below_drewN ?_ _ | refine Below.alloc ?_ (by first | omega | (simp <;> omega)) _ | refine Below.setCell ?_ (by first | omega | (simp <;> omega)) _ | refine Below.trans ?_ (Below.mono (by assumption) (by first | omega | (simp <;> omega))))))).mono ?_; rintro e w1 ⟨rfl, hb1⟩; have hs1 := hb1.size; (try simp at hs1); have y3 : w1.cell? ⟨w.heap.size, 0, none⟩ = some (.int .i64 (l : Int)) := (hb1.cell (p := ⟨w.heap.size, 0, none⟩) (by simp <;> omega)).trans (by simp [go_sem]); have y4 : w1.cell? ⟨w.heap.size + 1, 0, none⟩ = some (.int .i64 0) := (hb1.cell (p := ⟨w.heap.size + 1, 0, none⟩) (by simp <;> omega)).trans (by simp [go_sem]); have y5 : w1.cell? ⟨w.heap.size + 1, 1, none⟩ = some (.slice none 0 0) := (hb1.cell (p := ⟨w.heap.size + 1, 1, none⟩) (by simp <;> omega)).trans (by simp [go_sem]); have f4 : w1.frozen? ⟨w.heap.size + 1, 0, none⟩ = false := (hb1.frozen (p := ⟨w.heap.size + 1, 0, none⟩) (by simp <;> omega)).trans (by simp [go_sem]); have f5 : w1.frozen? ⟨w.heap.size + 1, 1, none⟩ = false := (hb1.frozen (p := ⟨w.heap.size + 1, 1, none⟩) (by simp <;> omega)).trans (by simp [go_sem]); have l3 : w.heap.size < w1.heap.size := (by omega); have l4 : w.heap.size + 1 < w1.heap.size := (by omega); have n3 : ¬ w.heap.size = w1.heap.size := (by omega); have n4 : ¬ w.heap.size + 1 = w1.heap.size := (by omega); have n5 : ¬ w1.heap.size = w.heap.size := (by omega); have n6 : ¬ w1.heap.size = w.heap.size + 1 := (by omega)) | go_in)))
        all_goals (try rw [Exit.noGoto_ret])
        all_goals go_light
        all_goals (refine ⟨.tuple #[.agg #[.int .i64 0, .slice none 0 0], .int .i64 2], by simp [results, Try.results48, go_sem, *], ⟨none, 0, rfl, by simp [Value.ownBlock], .inl rfl, ?_⟩⟩; repeat' (first | exact Below.refl _ _ | refine Below.drew ?_ | refine below_drewN ?_ _ | refine Below.alloc ?_ (by first | omega | (simp <;> omega)) _ | refine Below.setCell ?_ (by first | omega | (simp <;> omega)) _ | refine Below.trans ?_ (Below.mono (by assumption) (by first | omega | (simp <;> omega)))))
      · rw [if_neg h3]
        obtain ⟨hc1, hc2, hc3, hc4⟩ := cchk_ok HC.out
        have hm0 : 0 < (occ 0 xs).length := by rw [← HD.out]; exact hd
        have hlst : 0 ≤ lst xs := by
          have h5 := (occ_nil_iff xs)
          have h6 := lst_ge xs
          by_cases h7 : lst xs = -1
          · have := h5.2 h7; omega
          · omega
        have hM : ((many xs : Nat) : Int) - 1 = lst xs := by unfold many; omega
        have e5 : rLast xs = (lst xs, 0) := by unfold rLast; rw [if_pos HC.out, if_neg (by omega), if_neg (by omega)]
        refine with_1 a xs cap l t d (many xs) w ha hc1 (by omega) (by omega) P hP (by omega) hc2 HT ht ht2 rfl (by omega) (by have := many_le xs; omega) q1 (fun w h => ?_)
        have := last_p a xs cap w h hl
        rw [e5] at this
        rw [hM]
        exact this
  · rw [if_pos h0]
    obtain ⟨E, hE⟩ : ∃ E, rChk xs = E := ⟨_, rfl⟩
    have hz : (rChk xs).1 = 0 ∧ (rChk xs).2.1 = 0 := by
      unfold rChk at h0 ⊢
      split
      · split
        · exact ⟨rfl, rfl⟩
        · rename_i h1 h2
          rw [if_pos h1, if_neg h2] at h0
          exact absurd rfl h0
      · exact ⟨rfl, rfl⟩
    rw [hE] at q1 h0 hz ⊢
    clear hE
    obtain ⟨E1, E2, E3⟩ := E
    dsimp only at q1 h0 hz ⊢
    obtain ⟨rfl, rfl⟩ := hz
    have h3 : (E3 != 0) = true := by simpa using h0
    clear h0
    refine calls_of_marks Try.func48 rfl ?_
    simp only [Try.ntmps48, List.size_toArray, List.length_cons, List.length_nil, Nat.reduceAdd, Nat.reduceSub, Array.replicate_succ, Array.replicate_zero, List.push_toArray, List.append_toArray, List.nil_append, List.cons_append]
    go_wp2
    go_step3
    go_wp2_with (first | (go_at_call 59; refine (q1 _ (ha.later (by repeat' (first | exact Below.refl _ _ | refine Below.drew ?_ | refine below_drewN ?_ _ | refine Below.alloc ?_ (by first | omega | (simp <;> omega)) _ | refine Below.setCell ?_ (by first | omega | (simp <;> omega)) _ | refine Below.trans ?_ (Below.mono (by assumption) (by first | omega | (simp <;> omega))))))).mono ?_; rintro e w1 ⟨rfl, hb1⟩; have hs1 := hb1.size; (try simp at hs1); have y3 : w1.cell? ⟨w.heap.size, 0, none⟩ = some (.int .i64 log) := (hb1.cell (p := ⟨w.heap.size, 0, none⟩) (by simp <;> omega)).trans (by simp [go_sem]); have y4 : w1.cell? ⟨w.heap.size + 1, 0, none⟩ = some (.int .i64 0) := (hb1.cell (p := ⟨w.heap.size + 1, 0, none⟩) (by simp <;> omega)).trans (by simp [go_sem]); have y5 : w1.cell? ⟨w.heap.size + 1, 1, none⟩ = some (.slice none 0 0) := (hb1.cell (p := ⟨w.heap.size + 1, 1, none⟩) (by simp <;> omega)).trans (by simp [go_sem]); have f4 : w1.frozen? ⟨w.heap.size + 1, 0, none⟩ = false := (hb1.frozen (p := ⟨w.heap.size + 1, 0, none⟩) (by simp <;> omega)).trans (by simp [go_sem]); have f5 : w1.frozen? ⟨w.heap.size + 1, 1, none⟩ = false := (hb1.frozen (p := ⟨w.heap.size + 1, 1, none⟩) (by simp <;> omega)).trans (by simp [go_sem]); have l3 : w.heap.size < w1.heap.size := (by omega); have l4 : w.heap.size + 1 < w1.heap.size := (by omega); have n3 : ¬ w.heap.size = w1.heap.size := (by omega); have n4 : ¬ w.heap.size + 1 = w1.heap.size := (by omega); have n5 : ¬ w1.heap.size = w.heap.size := (by omega); have n6 : ¬ w1.heap.size = w.heap.size + 1 := (by omega)) | go_in)
    repeat' (first | (go_region <;> go_wp2_with (first | (go_at_call 59; refine (q1 _ (ha.later (by repeat' (first | exact Below.refl _ _ | refine Below.drew ?_ | refine below_drewN ?_ _ | refine Below.alloc ?_ (by first | omega | (simp <;> omega)) _ | refine Below.setCell ?_ (by first | omega | (simp <;> omega)) _ | refine Below.trans ?_ (Below.mono (by assumption) (by first | omega | (simp <;> omega))))))).mono ?_; rintro e w1 ⟨rfl, hb1⟩; have hs1 := hb1.size; (try simp at hs1); have y3 : w1.cell? ⟨w.heap.size, 0, none⟩ = some (.int .i64 log) := (hb1.cell (p := ⟨w.heap.size, 0, none⟩) (by simp <;> omega)).trans (by simp [go_sem]); have y4 : w1.cell? ⟨w.heap.size + 1, 0, none⟩ = some (.int .i64 0) := (hb1.cell (p := ⟨w.heap.size + 1, 0, none⟩) (by simp <;> omega)).trans (by simp [go_sem]); have y5 : w1.cell? ⟨w.heap.size + 1, 1, none⟩ = some (.slice none 0 0) := (hb1.cell (p := ⟨w.heap.size + 1, 1, none⟩) (by simp <;> omega)).trans (by simp [go_sem]); have f4 : w1.frozen? ⟨w.heap.size + 1, 0, none⟩ = false := (hb1.frozen (p := ⟨w.heap.size + 1, 0, none⟩) (by simp <;> omega)).trans (by simp [go_sem]); have f5 : w1.frozen? ⟨w.heap.size + 1, 1, none⟩ = false := (hb1.frozen (p := ⟨w.heap.size + 1, 1, none⟩) (by simp <;> omega)).trans (by simp [go_sem]); have l3 : w.heap.size < w1.heap.size := (by omega); have l4 : w.heap.size + 1 < w1.heap.size := (by omega); have n3 : ¬ w.heap.size = w1.heap.size := (by omega); have n4 : ¬ w.heap.size + 1 = w1.heap.size := (by omega); have n5 : ¬ w1.heap.size = w.heap.size := (by omega); have n6 : ¬ w1.heap.size = w.heap.size + 1 := (by omega)) | go_in)))
    all_goals (try rw [Exit.noGoto_ret])
    all_goals go_light
    all_goals (refine ⟨.tuple #[.agg #[.int .i64 0, .slice none 0 0], .int .i64 E3], by simp [results, Try.results48, go_sem, *], ⟨none, 0, rfl, by simp [Value.ownBlock], .inl rfl, ?_⟩⟩; repeat' (first | exact Below.refl _ _ | refine Below.drew ?_ | refine below_drewN ?_ _ | refine Below.alloc ?_ (by first | omega | (simp <;> omega)) _ | refine Below.setCell ?_ (by first | omega | (simp <;> omega)) _ | refine Below.trans ?_ (Below.mono (by assumption) (by first | omega | (simp <;> omega)))))

theorem Row.other {k : IntKind} {w : World} {pa : Option Addr} {xs : List Int} (h : Row k w pa xs) {a : Addr} (ha : ∀ g, (pa.map (·.block)) = some g → a.block ≠ g) (v : Value) : Row k (w.setCell a v) pa xs := by
  rcases h with h | ⟨b, off, rfl, hlt, hc⟩
  · exact .inl h
  · have hne := ha b rfl
    refine .inr ⟨b, off, rfl, by simpa using hlt, fun i hi => ?_⟩
    rw [← hc i hi]
    simp [World.cell?, World.setCell, Array.getElem?_modify, hne]
theorem own_map {pa : Option Addr} {n c : Nat} {g : Nat} (h : pa.map (·.block) = some g) : (Value.slice pa n c).ownBlock = some g := by
  cases pa with
  | none => simp at h
  | some a => simpa [Value.ownBlock] using h

theorem of_p (a : Option Addr) (xs : List Int) (cap : Nat) (most : Int) (w : World) (ha : Row .i64 w a xs) (hl : xs.length ≤ 9223372036854775807) :
    Calls Try.prog 45 #[.slice a xs.length cap, .int .i64 most] w (DistPost (rOf xs most) w) := by
  have q1 := fun w h => log_p a xs cap most w h hl
  unfold rOf
  obtain ⟨L, hL⟩ : ∃ L, rLog xs most = L := ⟨_, rfl⟩
  rw [hL] at q1 ⊢
  clear hL
  obtain ⟨L1, L2⟩ := L
  dsimp only at q1 ⊢
  by_cases h0 : L2 = 0
  · subst h0
    rw [if_neg (by simp)]
    have q2 := fun w h => with_p a xs cap L1 w h hl
    obtain ⟨Q, hQ⟩ : ∃ Q, rWith xs L1 = Q := ⟨_, rfl⟩
    rw [hQ] at q2 ⊢
    clear hQ
    obtain ⟨⟨Q1, Q2⟩, Q3⟩ := Q
    go_enter Try.func45, Try.ntmps45
    go_wp2_with (first | (go_at_call 43; refine (q1 _ (ha.later (by repeat' (first | exact Below.refl _ _ | refine Below.drew ?_ | refine below_drewN ?_ _ | refine Below.alloc ?_ (by first | omega | (simp <;> omega)) _ | refine Below.setCell ?_ (by first | omega | (simp <;> omega)) _ | refine Below.trans ?_ (Below.mono (by assumption) (by first | omega | (simp <;> omega))))))).mono ?_; rintro e w1 ⟨rfl, hb⟩; have hsz := hb.size; (try simp at hsz); (first | (have hbl := blater2 HA (by first | exact Nat.le_refl _ | (simp; done) | (simp; omega)) hb; obtain ⟨hcc, hff, HA, hne, hne'⟩ := hbl) | (obtain ⟨hcc, hff, HA, hne, hne'⟩ := blater1 hb)); (try simp only [World.size_alloc, World.size_setCell] at HA)) | (go_at_call 48; refine (q2 _ (ha.later (by repeat' (first | exact Below.refl _ _ | refine Below.drew ?_ | refine below_drewN ?_ _ | refine Below.alloc ?_ (by first | omega | (simp <;> omega)) _ | refine Below.setCell ?_ (by first | omega | (simp <;> omega)) _ | refine Below.trans ?_ (Below.mono (by assumption) (by first | omega | (simp <;> omega))))))).mono ?_; rintro e w2 ⟨pA, cA, rfl, hgA, hrA, hb2⟩; have hsz := hb2.size; (try simp at hsz); (first | (have hbl := blater2 HA (by first | exact Nat.le_refl _ | (simp; done) | (simp; omega)) hb2; obtain ⟨hcc, hff, HA, hne, hne'⟩ := hbl) | (obtain ⟨hcc, hff, HA, hne, hne'⟩ := blater1 hb2)); (try simp only [World.size_alloc, World.size_setCell] at HA)))
    repeat' (first | (go_region <;> go_wp2_with (first | (go_at_call 43; refine (q1 _ (ha.later (by repeat' (first | exact Below.refl _ _ | refine Below.drew ?_ | refine below_drewN ?_ _ | refine Below.alloc ?_ (by first | omega | (simp <;> omega)) _ | refine Below.setCell ?_ (by first | omega | (simp <;> omega)) _ | refine Below.trans ?_ (Below.mono (by assumption) (by first | omega | (simp <;> omega))))))).mono ?_; rintro e w1 ⟨rfl, hb⟩; have hsz := hb.size; (try simp at hsz); (first | (have hbl := blater2 HA (by first | exact Nat.le_refl _ | (simp; done) | (simp; omega)) hb; obtain ⟨hcc, hff, HA, hne, hne'⟩ := hbl) | (obtain ⟨hcc, hff, HA, hne, hne'⟩ := blater1 hb)); (try simp only [World.size_alloc, World.size_setCell] at HA)) | (go_at_call 48; refine (q2 _ (ha.later (by repeat' (first | exact Below.refl _ _ | refine Below.drew ?_ | refine below_drewN ?_ _ | refine Below.alloc ?_ (by first | omega | (simp <;> omega)) _ | refine Below.setCell ?_ (by first | omega | (simp <;> omega)) _ | refine Below.trans ?_ (Below.mono (by assumption) (by first | omega | (simp <;> omega))))))).mono ?_; rintro e w2 ⟨pA, cA, rfl, hgA, hrA, hb2⟩; have hsz := hb2.size; (try simp at hsz); (first | (have hbl := blater2 HA (by first | exact Nat.le_refl _ | (simp; done) | (simp; omega)) hb2; obtain ⟨hcc, hff, HA, hne, hne'⟩ := hbl) | (obtain ⟨hcc, hff, HA, hne, hne'⟩ := blater1 hb2)); (try simp only [World.size_alloc, World.size_setCell] at HA)))))
    all_goals go_light
    refine bodyPost_ret (v := .tuple #[.agg #[.int .i64 Q1, .slice pA Q2.length cA], .int .i64 Q3]) (by simp [results, Try.results45, go_sem, *]) rfl ⟨pA, cA, rfl, fun g hg => ?_, ?_, ?_⟩
    · have := hgA g hg
      (try simp at this)
      omega
    · refine Row.other (Row.other hrA ?_ _) ?_ _
      all_goals (intro g hg; have := hgA g (own_map hg); (try simp at this); (try simp); omega)
    · repeat' (first | exact Below.refl _ _ | refine Below.drew ?_ | refine below_drewN ?_ _ | refine Below.alloc ?_ (by first | omega | (simp <;> omega)) _ | refine Below.setCell ?_ (by first | omega | (simp <;> omega)) _ | refine Below.trans ?_ (Below.mono (by assumption) (by first | omega | (simp <;> omega))))
  · rw [if_pos h0]
    have h1 : (L2 != 0) = true := by simpa using h0
    clear h0
    go_enter Try.func45, Try.ntmps45
    go_wp2_with (first | (go_at_call 43; refine (q1 _ (ha.later (by repeat' (first | exact Below.refl _ _ | refine Below.drew ?_ | refine below_drewN ?_ _ | refine Below.alloc ?_ (by first | omega | (simp <;> omega)) _ | refine Below.setCell ?_ (by first | omega | (simp <;> omega)) _ | refine Below.trans ?_ (Below.mono (by assumption) (by first | omega | (simp <;> omega))))))).mono ?_; rintro e w1 ⟨rfl, hb⟩; have hsz := hb.size; (try simp at hsz); (first | (have hbl := blater2 HA (by first | exact Nat.le_refl _ | (simp; done) | (simp; omega)) hb; obtain ⟨hcc, hff, HA, hne, hne'⟩ := hbl) | (obtain ⟨hcc, hff, HA, hne, hne'⟩ := blater1 hb)); (try simp only [World.size_alloc, World.size_setCell] at HA)))
    repeat' (first | (go_region <;> go_wp2_with (first | (go_at_call 43; refine (q1 _ (ha.later (by repeat' (first | exact Below.refl _ _ | refine Below.drew ?_ | refine below_drewN ?_ _ | refine Below.alloc ?_ (by first | omega | (simp <;> omega)) _ | refine Below.setCell ?_ (by first | omega | (simp <;> omega)) _ | refine Below.trans ?_ (Below.mono (by assumption) (by first | omega | (simp <;> omega))))))).mono ?_; rintro e w1 ⟨rfl, hb⟩; have hsz := hb.size; (try simp at hsz); (first | (have hbl := blater2 HA (by first | exact Nat.le_refl _ | (simp; done) | (simp; omega)) hb; obtain ⟨hcc, hff, HA, hne, hne'⟩ := hbl) | (obtain ⟨hcc, hff, HA, hne, hne'⟩ := blater1 hb)); (try simp only [World.size_alloc, World.size_setCell] at HA)))))
    all_goals go_light
    refine bodyPost_ret (v := .tuple #[.agg #[.int .i64 0, .slice none 0 0], .int .i64 L2]) (by simp [results, Try.results45, go_sem, *]) rfl ⟨none, 0, rfl, by simp [Value.ownBlock], .inl rfl, ?_⟩
    repeat' (first | exact Below.refl _ _ | refine Below.drew ?_ | refine below_drewN ?_ _ | refine Below.alloc ?_ (by first | omega | (simp <;> omega)) _ | refine Below.setCell ?_ (by first | omega | (simp <;> omega)) _ | refine Below.trans ?_ (Below.mono (by assumption) (by first | omega | (simp <;> omega))))
end Go.Proofs.Ytgponpjlkebjcaa
