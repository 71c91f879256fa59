/-
  The reference's With and Of, whole.
-/
import Derived.Test.YtgponpjlkebjcaaRows
import Derived.Test.YtgponpjlkebjcaaNormRWith
import Derived.Test.YtgponpjlkebjcaaCommon
import Derived.Deep.Light
import Derived.Shelf.Abstract
import Derived.Shelf.RegionOpen
import Derived.OwnWalkIn
import Derived.TacticsInMore
import Derived.LoopNIn
import Derived.LoopIn
import Derived.Outline
namespace Go.Proofs.Ytgponpjlkebjcaa
open Go.RowKit
set_option linter.unusedSimpArgs false
set_option linter.unusedVariables false
open Go.Shelf
attribute [local go_sem] Oper.semAt_some

set_option maxHeartbeats 2000000 in
theorem rwith_p (a : Option Addr) (xs : List Int) (cap : Nat) (log : Int) (w : World) (ha : Row .i64 w a xs) (hl : xs.length ≤ 9223372036854775807) :
    Calls Try.prog 49 #[.slice a xs.length cap, .int .i64 log] w (DistPost (rWith xs log) w) := by
  have q1 := fun w h => given_p a xs cap w h hl
  unfold rWith
  by_cases h0 : (rChk xs).2.2 = 0
  · rw [if_neg (by simpa using h0)]
    obtain ⟨t, d, e1, HC, HT, HD, hd, ht, ht2, hd2, hdl⟩ := rChk_ok h0
    rw [e1] at q1 ⊢
    dsimp only at q1 ⊢
    by_cases h1 : log < 5 ∨ 12 < log
    · rw [if_pos h1]
      have h2 : log < 5 ∨ (¬ log < 5 ∧ 12 < log) := by omega
      clear h1 h0 e1
      rcases h2 with g1 | ⟨g1, g2⟩
      all_goals
        go_enter Try.func49, Try.ntmps49
        go_wp2_with ((go_at_call 62; refine (q1 _ (ha.later (by repeat' (first | exact Below.refl _ _ | refine Below.drew ?_ | refine below_drewN ?_ _ | refine Below.alloc ?_ (by first | omega | (simp <;> omega)) _ | refine Below.setCell ?_ (by first | omega | (simp <;> omega)) _ | refine Below.trans ?_ (Below.mono (by assumption) (by first | omega | (simp <;> omega))))))).mono ?_; rintro e w1 ⟨rfl, hb⟩; have hsz := hb.size; (try simp at hsz); (first | (have hbl := blater2 HA (by first | exact Nat.le_refl _ | (simp; done) | (simp; omega)) hb; obtain ⟨hcc, hff, HA, hne, hne'⟩ := hbl) | (obtain ⟨hcc, hff, HA, hne, hne'⟩ := blater1 hb)); (try simp only [World.size_alloc, World.size_setCell] at HA)))
        repeat' (first | (go_region <;> go_wp2_with ((go_at_call 62; refine (q1 _ (ha.later (by repeat' (first | exact Below.refl _ _ | refine Below.drew ?_ | refine below_drewN ?_ _ | refine Below.alloc ?_ (by first | omega | (simp <;> omega)) _ | refine Below.setCell ?_ (by first | omega | (simp <;> omega)) _ | refine Below.trans ?_ (Below.mono (by assumption) (by first | omega | (simp <;> omega))))))).mono ?_; rintro e w1 ⟨rfl, hb⟩; have hsz := hb.size; (try simp at hsz); (first | (have hbl := blater2 HA (by first | exact Nat.le_refl _ | (simp; done) | (simp; omega)) hb; obtain ⟨hcc, hff, HA, hne, hne'⟩ := hbl) | (obtain ⟨hcc, hff, HA, hne, hne'⟩ := blater1 hb)); (try simp only [World.size_alloc, World.size_setCell] at HA)))))
        all_goals go_light
        all_goals (refine bodyPost_ret (v := .tuple #[.agg #[.int .i64 0, .slice none 0 0], .int .i64 31]) (by simp [results, Try.results49, go_sem, *]) rfl ⟨none, 0, rfl, by simp [Value.ownBlock], .inl rfl, ?_⟩; repeat' (first | exact Below.refl _ _ | refine Below.drew ?_ | refine below_drewN ?_ _ | refine Below.alloc ?_ (by first | omega | (simp <;> omega)) _ | refine Below.setCell ?_ (by first | omega | (simp <;> omega)) _ | refine Below.trans ?_ (Below.mono (by assumption) (by first | omega | (simp <;> omega)))))
    · rw [if_neg h1]
      obtain ⟨l, rfl⟩ : ∃ m : Nat, log = (m : Int) := ⟨log.toNat, by omega⟩
      rw [Int.toNat_natCast]
      have hp := pow12 l (by omega)
      have g1 : ¬ (l : Int) < 5 := by omega
      have g2 : ¬ (12 : Int) < (l : Int) := by omega
      obtain ⟨P, hP⟩ : ∃ P, (2 : Int) ^ l = P := ⟨_, rfl⟩
      rw [hP] at hp ⊢
      obtain ⟨p1, p2⟩ := hp
      by_cases h3 : P < (d : Int)
      · rw [if_pos h3]
        have gP : wrap64 ((2 : Int) ^ l) = P := by rw [hP]; exact IntWalk.wrap64_in _ (by omega)
        clear h0 e1 h1 hP
        go_enter Try.func49, Try.ntmps49
        go_wp2_with ((go_at_call 62; refine (q1 _ (ha.later (by repeat' (first | exact Below.refl _ _ | refine Below.drew ?_ | refine below_drewN ?_ _ | refine Below.alloc ?_ (by first | omega | (simp <;> omega)) _ | refine Below.setCell ?_ (by first | omega | (simp <;> omega)) _ | refine Below.trans ?_ (Below.mono (by assumption) (by first | omega | (simp <;> omega))))))).mono ?_; rintro e w1 ⟨rfl, hb⟩; have hsz := hb.size; (try simp at hsz); (first | (have hbl := blater2 HA (by first | exact Nat.le_refl _ | (simp; done) | (simp; omega)) hb; obtain ⟨hcc, hff, HA, hne, hne'⟩ := hbl) | (obtain ⟨hcc, hff, HA, hne, hne'⟩ := blater1 hb)); (try simp only [World.size_alloc, World.size_setCell] at HA)))
        repeat' (first | (go_region <;> go_wp2_with ((go_at_call 62; refine (q1 _ (ha.later (by repeat' (first | exact Below.refl _ _ | refine Below.drew ?_ | refine below_drewN ?_ _ | refine Below.alloc ?_ (by first | omega | (simp <;> omega)) _ | refine Below.setCell ?_ (by first | omega | (simp <;> omega)) _ | refine Below.trans ?_ (Below.mono (by assumption) (by first | omega | (simp <;> omega))))))).mono ?_; rintro e w1 ⟨rfl, hb⟩; have hsz := hb.size; (try simp at hsz); (first | (have hbl := blater2 HA (by first | exact Nat.le_refl _ | (simp; done) | (simp; omega)) hb; obtain ⟨hcc, hff, HA, hne, hne'⟩ := hbl) | (obtain ⟨hcc, hff, HA, hne, hne'⟩ := blater1 hb)); (try simp only [World.size_alloc, World.size_setCell] at HA)))))
        all_goals go_light
        all_goals (refine bodyPost_ret (v := .tuple #[.agg #[.int .i64 0, .slice none 0 0], .int .i64 2]) (by simp [results, Try.results49, go_sem, *]) rfl ⟨none, 0, rfl, by simp [Value.ownBlock], .inl rfl, ?_⟩; repeat' (first | exact Below.refl _ _ | refine Below.drew ?_ | refine below_drewN ?_ _ | refine Below.alloc ?_ (by first | omega | (simp <;> omega)) _ | refine Below.setCell ?_ (by first | omega | (simp <;> omega)) _ | refine Below.trans ?_ (Below.mono (by assumption) (by first | omega | (simp <;> omega)))))
      · rw [if_neg h3]
        obtain ⟨hc1, hc2, hc3, hc4⟩ := cchk_ok HC.out
        have hm0 : 0 < (occ 0 xs).length := by rw [← HD.out]; exact hd
        have hlst : 0 ≤ lst xs := by
          have h5 := (occ_nil_iff xs)
          have h6 := lst_ge xs
          by_cases h7 : lst xs = -1
          · have := h5.2 h7; omega
          · omega
        have hM : ((many xs : Nat) : Int) - 1 = lst xs := by unfold many; omega
        have e5 : rLast xs = (lst xs, 0) := by unfold rLast; rw [if_pos HC.out, if_neg (by omega), if_neg (by omega)]
        refine rwith_1 a xs cap l t d (many xs) w ha hc1 (by omega) (by omega) P hP (by rw [hP]; exact IntWalk.wrap64_in _ (by omega)) (by omega) hc2 HT ht ht2 HC (Lib.hid (by rw [HD.out])) rfl (by omega) (by have := many_le xs; omega) q1 (fun w h => ?_)
        have := rlast_p a xs cap w h hl
        rw [e5] at this
        rw [hM]
        exact this
  · rw [if_pos h0]
    obtain ⟨E, hE⟩ : ∃ E, rChk xs = E := ⟨_, rfl⟩
    have hz : (rChk xs).1 = 0 ∧ (rChk xs).2.1 = 0 := by
      unfold rChk at h0 ⊢
      split
      · split
        · exact ⟨rfl, rfl⟩
        · rename_i h1 h2
          rw [if_pos h1, if_neg h2] at h0
          exact absurd rfl h0
      · exact ⟨rfl, rfl⟩
    rw [hE] at q1 h0 hz ⊢
    clear hE
    obtain ⟨E1, E2, E3⟩ := E
    dsimp only at q1 h0 hz ⊢
    obtain ⟨rfl, rfl⟩ := hz
    have h3 : (E3 != 0) = true := by simpa using h0
    clear h0
    go_enter Try.func49, Try.ntmps49
    go_wp2_with ((go_at_call 62; refine (q1 _ (ha.later (by repeat' (first | exact Below.refl _ _ | refine Below.drew ?_ | refine below_drewN ?_ _ | refine Below.alloc ?_ (by first | omega | (simp <;> omega)) _ | refine Below.setCell ?_ (by first | omega | (simp <;> omega)) _ | refine Below.trans ?_ (Below.mono (by assumption) (by first | omega | (simp <;> omega))))))).mono ?_; rintro e w1 ⟨rfl, hb⟩; have hsz := hb.size; (try simp at hsz); (first | (have hbl := blater2 HA (by first | exact Nat.le_refl _ | (simp; done) | (simp; omega)) hb; obtain ⟨hcc, hff, HA, hne, hne'⟩ := hbl) | (obtain ⟨hcc, hff, HA, hne, hne'⟩ := blater1 hb)); (try simp only [World.size_alloc, World.size_setCell] at HA)))
    repeat' (first | (go_region <;> go_wp2_with ((go_at_call 62; refine (q1 _ (ha.later (by repeat' (first | exact Below.refl _ _ | refine Below.drew ?_ | refine below_drewN ?_ _ | refine Below.alloc ?_ (by first | omega | (simp <;> omega)) _ | refine Below.setCell ?_ (by first | omega | (simp <;> omega)) _ | refine Below.trans ?_ (Below.mono (by assumption) (by first | omega | (simp <;> omega))))))).mono ?_; rintro e w1 ⟨rfl, hb⟩; have hsz := hb.size; (try simp at hsz); (first | (have hbl := blater2 HA (by first | exact Nat.le_refl _ | (simp; done) | (simp; omega)) hb; obtain ⟨hcc, hff, HA, hne, hne'⟩ := hbl) | (obtain ⟨hcc, hff, HA, hne, hne'⟩ := blater1 hb)); (try simp only [World.size_alloc, World.size_setCell] at HA)))))
    all_goals go_light
    all_goals (refine bodyPost_ret (v := .tuple #[.agg #[.int .i64 0, .slice none 0 0], .int .i64 E3]) (by simp [results, Try.results49, go_sem, *]) rfl ⟨none, 0, rfl, by simp [Value.ownBlock], .inl rfl, ?_⟩; repeat' (first | exact Below.refl _ _ | refine Below.drew ?_ | refine below_drewN ?_ _ | refine Below.alloc ?_ (by first | omega | (simp <;> omega)) _ | refine Below.setCell ?_ (by first | omega | (simp <;> omega)) _ | refine Below.trans ?_ (Below.mono (by assumption) (by first | omega | (simp <;> omega)))))

theorem rof_p (a : Option Addr) (xs : List Int) (cap : Nat) (most : Int) (w : World) (ha : Row .i64 w a xs) (hl : xs.length ≤ 9223372036854775807) :
    Calls Try.prog 46 #[.slice a xs.length cap, .int .i64 most] w (DistPost (rOf xs most) w) := by
  have q1 := fun w h => rlog_p a xs cap most w h hl
  unfold rOf
  obtain ⟨L, hL⟩ : ∃ L, rLog xs most = L := ⟨_, rfl⟩
  rw [hL] at q1 ⊢
  clear hL
  obtain ⟨L1, L2⟩ := L
  dsimp only at q1 ⊢
  by_cases h0 : L2 = 0
  · subst h0
    rw [if_neg (by simp)]
    have q2 := fun w h => rwith_p a xs cap L1 w h hl
    obtain ⟨Q, hQ⟩ : ∃ Q, rWith xs L1 = Q := ⟨_, rfl⟩
    rw [hQ] at q2 ⊢
    clear hQ
    obtain ⟨⟨Q1, Q2⟩, Q3⟩ := Q
    go_enter Try.func46, Try.ntmps46
    go_wp2_with (first | (go_at_call 44; refine (q1 _ (ha.later (by repeat' (first | exact Below.refl _ _ | refine Below.drew ?_ | refine below_drewN ?_ _ | refine Below.alloc ?_ (by first | omega | (simp <;> omega)) _ | refine Below.setCell ?_ (by first | omega | (simp <;> omega)) _ | refine Below.trans ?_ (Below.mono (by assumption) (by first | omega | (simp <;> omega))))))).mono ?_; rintro e w1 ⟨rfl, hb⟩; have hsz := hb.size; (try simp at hsz); (first | (have hbl := blater2 HA (by first | exact Nat.le_refl _ | (simp; done) | (simp; omega)) hb; obtain ⟨hcc, hff, HA, hne, hne'⟩ := hbl) | (obtain ⟨hcc, hff, HA, hne, hne'⟩ := blater1 hb)); (try simp only [World.size_alloc, World.size_setCell] at HA)) | (go_at_call 49; refine (q2 _ (ha.later (by repeat' (first | exact Below.refl _ _ | refine Below.drew ?_ | refine below_drewN ?_ _ | refine Below.alloc ?_ (by first | omega | (simp <;> omega)) _ | refine Below.setCell ?_ (by first | omega | (simp <;> omega)) _ | refine Below.trans ?_ (Below.mono (by assumption) (by first | omega | (simp <;> omega))))))).mono ?_; rintro e w2 ⟨pA, cA, rfl, hgA, hrA, hb2⟩; have hsz := hb2.size; (try simp at hsz); (first | (have hbl := blater2 HA (by first | exact Nat.le_refl _ | (simp; done) | (simp; omega)) hb2; obtain ⟨hcc, hff, HA, hne, hne'⟩ := hbl) | (obtain ⟨hcc, hff, HA, hne, hne'⟩ := blater1 hb2)); (try simp only [World.size_alloc, World.size_setCell] at HA)))
    repeat' (first | (go_region <;> go_wp2_with (first | (go_at_call 44; refine (q1 _ (ha.later (by repeat' (first | exact Below.refl _ _ | refine Below.drew ?_ | refine below_drewN ?_ _ | refine Below.alloc ?_ (by first | omega | (simp <;> omega)) _ | refine Below.setCell ?_ (by first | omega | (simp <;> omega)) _ | refine Below.trans ?_ (Below.mono (by assumption) (by first | omega | (simp <;> omega))))))).mono ?_; rintro e w1 ⟨rfl, hb⟩; have hsz := hb.size; (try simp at hsz); (first | (have hbl := blater2 HA (by first | exact Nat.le_refl _ | (simp; done) | (simp; omega)) hb; obtain ⟨hcc, hff, HA, hne, hne'⟩ := hbl) | (obtain ⟨hcc, hff, HA, hne, hne'⟩ := blater1 hb)); (try simp only [World.size_alloc, World.size_setCell] at HA)) | (go_at_call 49; refine (q2 _ (ha.later (by repeat' (first | exact Below.refl _ _ | refine Below.drew ?_ | refine below_drewN ?_ _ | refine Below.alloc ?_ (by first | omega | (simp <;> omega)) _ | refine Below.setCell ?_ (by first | omega | (simp <;> omega)) _ | refine Below.trans ?_ (Below.mono (by assumption) (by first | omega | (simp <;> omega))))))).mono ?_; rintro e w2 ⟨pA, cA, rfl, hgA, hrA, hb2⟩; have hsz := hb2.size; (try simp at hsz); (first | (have hbl := blater2 HA (by first | exact Nat.le_refl _ | (simp; done) | (simp; omega)) hb2; obtain ⟨hcc, hff, HA, hne, hne'⟩ := hbl) | (obtain ⟨hcc, hff, HA, hne, hne'⟩ := blater1 hb2)); (try simp only [World.size_alloc, World.size_setCell] at HA)))))
    all_goals go_light
    refine bodyPost_ret (v := .tuple #[.agg #[.int .i64 Q1, .slice pA Q2.length cA], .int .i64 Q3]) (by simp [results, Try.results46, go_sem, *]) rfl ⟨pA, cA, rfl, fun g hg => ?_, ?_, ?_⟩
    · have := hgA g hg
      (try simp at this)
      omega
    · refine Row.other (Row.other hrA ?_ _) ?_ _
      all_goals (intro g hg; have := hgA g (own_map hg); (try simp at this); (try simp); omega)
    · repeat' (first | exact Below.refl _ _ | refine Below.drew ?_ | refine below_drewN ?_ _ | refine Below.alloc ?_ (by first | omega | (simp <;> omega)) _ | refine Below.setCell ?_ (by first | omega | (simp <;> omega)) _ | refine Below.trans ?_ (Below.mono (by assumption) (by first | omega | (simp <;> omega))))
  · rw [if_pos h0]
    have h1 : (L2 != 0) = true := by simpa using h0
    clear h0
    go_enter Try.func46, Try.ntmps46
    go_wp2_with (first | (go_at_call 44; refine (q1 _ (ha.later (by repeat' (first | exact Below.refl _ _ | refine Below.drew ?_ | refine below_drewN ?_ _ | refine Below.alloc ?_ (by first | omega | (simp <;> omega)) _ | refine Below.setCell ?_ (by first | omega | (simp <;> omega)) _ | refine Below.trans ?_ (Below.mono (by assumption) (by first | omega | (simp <;> omega))))))).mono ?_; rintro e w1 ⟨rfl, hb⟩; have hsz := hb.size; (try simp at hsz); (first | (have hbl := blater2 HA (by first | exact Nat.le_refl _ | (simp; done) | (simp; omega)) hb; obtain ⟨hcc, hff, HA, hne, hne'⟩ := hbl) | (obtain ⟨hcc, hff, HA, hne, hne'⟩ := blater1 hb)); (try simp only [World.size_alloc, World.size_setCell] at HA)))
    repeat' (first | (go_region <;> go_wp2_with (first | (go_at_call 44; refine (q1 _ (ha.later (by repeat' (first | exact Below.refl _ _ | refine Below.drew ?_ | refine below_drewN ?_ _ | refine Below.alloc ?_ (by first | omega | (simp <;> omega)) _ | refine Below.setCell ?_ (by first | omega | (simp <;> omega)) _ | refine Below.trans ?_ (Below.mono (by assumption) (by first | omega | (simp <;> omega))))))).mono ?_; rintro e w1 ⟨rfl, hb⟩; have hsz := hb.size; (try simp at hsz); (first | (have hbl := blater2 HA (by first | exact Nat.le_refl _ | (simp; done) | (simp; omega)) hb; obtain ⟨hcc, hff, HA, hne, hne'⟩ := hbl) | (obtain ⟨hcc, hff, HA, hne, hne'⟩ := blater1 hb)); (try simp only [World.size_alloc, World.size_setCell] at HA)))))
    all_goals go_light
    refine bodyPost_ret (v := .tuple #[.agg #[.int .i64 0, .slice none 0 0], .int .i64 L2]) (by simp [results, Try.results46, go_sem, *]) rfl ⟨none, 0, rfl, by simp [Value.ownBlock], .inl rfl, ?_⟩
    repeat' (first | exact Below.refl _ _ | refine Below.drew ?_ | refine below_drewN ?_ _ | refine Below.alloc ?_ (by first | omega | (simp <;> omega)) _ | refine Below.setCell ?_ (by first | omega | (simp <;> omega)) _ | refine Below.trans ?_ (Below.mono (by assumption) (by first | omega | (simp <;> omega))))
end Go.Proofs.Ytgponpjlkebjcaa
