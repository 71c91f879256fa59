/-
  CountsAdds, walked.
-/
import Derived.Test.YtgponpjlkebjcaaRows
import Derived.Test.YtgponpjlkebjcaaCountsKnownW
import Derived.Test.YtgponpjlkebjcaaCountsAddsPlain
import Derived.Test.YtgponpjlkebjcaaCommon
import Derived.Deep.Light
import Derived.Shelf.Abstract
import Derived.Shelf.RegionOpen
import Derived.OwnWalkIn
import Derived.TacticsInMore
import Derived.LoopNIn
import Derived.LoopIn
namespace Go.Proofs.Ytgponpjlkebjcaa
open Go.RowKit
set_option linter.unusedSimpArgs false
set_option linter.unusedVariables false
attribute [local go_sem] Oper.semAt_some

/-- A list of 256 counts. -/
def Post256 (X : List Int) (w : World) (e : Ending) (w' : World) : Prop := ∃ pa ca, e = .returned (.tuple #[.slice pa 256 ca, .int .i64 0]) ∧ Row .i64 w' pa X ∧ Below w.heap.size w w'
theorem bytes_256 (s : ByteArray) (hs : s.size ≤ 1048576) (w : World) : Calls Try.prog 16 #[.string s] w (Post256 (tally 256 (bts s)) w) := by
  have e : rBytes s = (tally 256 (bts s), 0) := by unfold rBytes; rw [if_neg (by omega)]
  refine (bytes_p s w (by omega)).mono ?_
  rw [e]
  rintro e w' ⟨pa, ca, rfl, hr, hb⟩
  exact ⟨pa, ca, by rw [tally_len], hr, hb⟩
set_option maxRecDepth 100000 in
set_option maxHeartbeats 4000000 in
theorem adds_1 (s t : ByteArray) (w : World) (g1 : ¬ (200 : Int) < (s.size : Int)) (g2 : ¬ (200 : Int) < (t.size : Int)) (d : Nat) (b : Bool) (o : Int) (XA XB XX : List Int) (lA : XA.length = 256) (lB : XB.length = 256) (lX : XX.length = 256)
    (hadd : ∀ z, z < 256 → XA.getD z 0 + XB.getD z 0 = XX.getD z 0) (bA : ∀ z, 0 ≤ XA.getD z 0 ∧ XA.getD z 0 ≤ 200) (bB : ∀ z, 0 ≤ XB.getD z 0 ∧ XB.getD z 0 ≤ 200) (hbd : b = ((d : Int) == 1))
    (qA : ∀ w, Calls Try.prog 16 #[.string s] w (Post256 XA w)) (qB : ∀ w, Calls Try.prog 16 #[.string t] w (Post256 XB w))
    (qX : ∀ w, Calls Try.prog 16 #[.string (s ++ t)] w (Post256 XX w)) (qY : ∀ w, Calls Try.prog 16 #[.string (t ++ s)] w (Post256 XX w))
    (qT : ∀ a cap w, Row .i64 w a XX → Calls Try.prog 25 #[.slice a 256 cap] w fun e w' => e = .returned (.tuple #[.int .i64 ((s.size : Int) + (t.size : Int)), .int .i64 0]) ∧ Below w.heap.size w w')
    (qD : ∀ a cap w, Row .i64 w a XX → Calls Try.prog 27 #[.slice a 256 cap] w fun e w' => e = .returned (.tuple #[.int .i64 (d : Int), .int .i64 0]) ∧ Below w.heap.size w w')
    (qO : ∀ a cap w, Row .i64 w a XX → Calls Try.prog 33 #[.slice a 256 cap] w fun e w' => e = .returned (.tuple #[.int .i64 o, .bool b, .int .i64 0]) ∧ Below w.heap.size w w')
    (qS : ∀ w, Calls Try.prog 21 #[.string (s ++ t)] w fun e w' => e = .returned (.bool b) ∧ Below w.heap.size w w') :
    Calls Try.prog 7 #[.string s, .string t] w fun e w' => e = .returned (.bool true) ∧ Below w.heap.size w w' := by
  have g3 : s.size + t.size ≤ 9223372036854775807 := by omega
  have g4 : t.size + s.size ≤ 9223372036854775807 := by omega
  have HA := Lib.hid (show _ ∧ _ ∧ _ from ⟨hadd, bA, bB⟩)
  clear hadd bA bB
  subst hbd
  go_enter Try.func7, Try.ntmps7
  go_wp2_with (first | (go_at_call 5; refine (countsKnown_w _).mono ?_; rintro e w1 ⟨rfl, hb⟩; have hsz := hb.size; (try simp at hsz)) | (go_at_call 16; (with_reducible refine (qA _).mono ?_); rintro e w1 ⟨pA, cA, rfl, hrA, hb⟩; have hsz := hb.size; (try simp at hsz)) | (go_at_call 16; (with_reducible refine (qB _).mono ?_); rintro e w1 ⟨pB, cB, rfl, hrB, hb⟩; have hsz := hb.size; (try simp at hsz)) | (go_at_call 16; (with_reducible refine (qX _).mono ?_); rintro e w1 ⟨pX, cX, rfl, hrX, hb⟩; have hsz := hb.size; (try simp at hsz)) | (go_at_call 16; (with_reducible refine (qY _).mono ?_); rintro e w1 ⟨pY, cY, rfl, hrY, hb⟩; have hsz := hb.size; (try simp at hsz)) | (go_at_call 25; refine (qT _ _ _ (hrX.later (by repeat' (first | exact Below.refl _ _ | refine Below.drew ?_ | refine below_drewN ?_ _ | refine Below.alloc ?_ (by first | omega | (simp <;> omega)) _ | refine Below.setCell ?_ (by first | omega | (simp <;> omega)) _ | refine Below.trans ?_ (Below.mono (by assumption) (by first | omega | (simp <;> omega))))))).mono ?_; rintro e w1 ⟨rfl, hb⟩; have hsz := hb.size; (try simp at hsz)) | (go_at_call 27; refine (qD _ _ _ (hrX.later (by repeat' (first | exact Below.refl _ _ | refine Below.drew ?_ | refine below_drewN ?_ _ | refine Below.alloc ?_ (by first | omega | (simp <;> omega)) _ | refine Below.setCell ?_ (by first | omega | (simp <;> omega)) _ | refine Below.trans ?_ (Below.mono (by assumption) (by first | omega | (simp <;> omega))))))).mono ?_; rintro e w1 ⟨rfl, hb⟩; have hsz := hb.size; (try simp at hsz)) | (go_at_call 33; refine (qO _ _ _ (hrX.later (by repeat' (first | exact Below.refl _ _ | refine Below.drew ?_ | refine below_drewN ?_ _ | refine Below.alloc ?_ (by first | omega | (simp <;> omega)) _ | refine Below.setCell ?_ (by first | omega | (simp <;> omega)) _ | refine Below.trans ?_ (Below.mono (by assumption) (by first | omega | (simp <;> omega))))))).mono ?_; rintro e w1 ⟨rfl, hb⟩; have hsz := hb.size; (try simp at hsz)) | (go_at_call 20; refine (kn_same _ _ XX 256 _ _ _ (hrX.later (by repeat' (first | exact Below.refl _ _ | refine Below.drew ?_ | refine below_drewN ?_ _ | refine Below.alloc ?_ (by first | omega | (simp <;> omega)) _ | refine Below.setCell ?_ (by first | omega | (simp <;> omega)) _ | refine Below.trans ?_ (Below.mono (by assumption) (by first | omega | (simp <;> omega)))))) (hrY.later (by repeat' (first | exact Below.refl _ _ | refine Below.drew ?_ | refine below_drewN ?_ _ | refine Below.alloc ?_ (by first | omega | (simp <;> omega)) _ | refine Below.setCell ?_ (by first | omega | (simp <;> omega)) _ | refine Below.trans ?_ (Below.mono (by assumption) (by first | omega | (simp <;> omega)))))) lX.symm (by omega)).mono ?_; rintro e w1 ⟨rfl, hb⟩; have hsz := hb.size; (try simp at hsz)) | (go_at_call 21; refine (qS _).mono ?_; rintro e w1 ⟨rfl, hb⟩; have hsz := hb.size; (try simp at hsz)))
  have RA : Row .i64 w1 pA XA := hrA.later (by repeat' (first | exact Below.refl _ _ | refine Below.drew ?_ | refine below_drewN ?_ _ | refine Below.alloc ?_ (by first | omega | (simp <;> omega)) _ | refine Below.setCell ?_ (by first | omega | (simp <;> omega)) _ | refine Below.trans ?_ (Below.mono (by assumption) (by first | omega | (simp <;> omega)))))
  have RB : Row .i64 w1 pB XB := hrB.later (by repeat' (first | exact Below.refl _ _ | refine Below.drew ?_ | refine below_drewN ?_ _ | refine Below.alloc ?_ (by first | omega | (simp <;> omega)) _ | refine Below.setCell ?_ (by first | omega | (simp <;> omega)) _ | refine Below.trans ?_ (Below.mono (by assumption) (by first | omega | (simp <;> omega)))))
  have RX : Row .i64 w1 pX XX := hrX.later (by repeat' (first | exact Below.refl _ _ | refine Below.drew ?_ | refine below_drewN ?_ _ | refine Below.alloc ?_ (by first | omega | (simp <;> omega)) _ | refine Below.setCell ?_ (by first | omega | (simp <;> omega)) _ | refine Below.trans ?_ (Below.mono (by assumption) (by first | omega | (simp <;> omega)))))
  have B1 : Below w.heap.size w w1 := (by repeat' (first | exact Below.refl _ _ | refine Below.drew ?_ | refine below_drewN ?_ _ | refine Below.alloc ?_ (by first | omega | (simp <;> omega)) _ | refine Below.setCell ?_ (by first | omega | (simp <;> omega)) _ | refine Below.trans ?_ (Below.mono (by assumption) (by first | omega | (simp <;> omega)))))
  clear hrA hrB hrX hrY qA qB qX qY qT qD qO qS hb hsz
  go_loopw [21] (fun i wr => ∃ k : Nat, i = .int .i64 k ∧ k ≤ 256 ∧ Below w1.heap.size w1 wr) (fun i _ => 256 - (intOf i).toNat)
  case atStart => exact ⟨0, rfl, by omega, Below.refl _ _⟩
  case round =>
    obtain ⟨k, rfl, hk, hb⟩ := hrel
    by_cases hlt : k < 256
    · have hd1 := HA.out.1 k hlt
      have hd2 := HA.out.2.1 k
      have hd3 := HA.out.2.2 k
      obtain ⟨b1, o1, rfl, hb1, hc1⟩ := (RA.later hb).at (i := k) (by omega)
      obtain ⟨b2, o2, rfl, hb2, hc2⟩ := (RB.later hb).at (i := k) (by omega)
      obtain ⟨b3, o3, rfl, hb3, hc3⟩ := (RX.later hb).at (i := k) (by omega)
      have c1 := hc1 k (by omega)
      have c2 := hc2 k (by omega)
      have c3 := hc3 k (by omega)
      obtain ⟨x, hx⟩ : ∃ x, XA.getD k 0 = x := ⟨_, rfl⟩
      obtain ⟨y, hy⟩ : ∃ y, XB.getD k 0 = y := ⟨_, rfl⟩
      obtain ⟨z, hz⟩ : ∃ z, XX.getD k 0 = z := ⟨_, rfl⟩
      rw [hx] at c1 hd1 hd2
      rw [hy] at c2 hd1 hd3
      rw [hz] at c3 hd1
      have e2 : ((x + y) != z) = false := by simp; omega
      clear hx hy hz hc1 hc2 hc3 hd1
      have i0 : (0 : Int) ≤ (k : Int) := by omega
      have i1 : (k : Int) < 256 := by omega
      go_wp2
      go_quiet (fail)
      go_wp2
      go_roundw
      case rel => exact ⟨k + 1, by go_num, by omega, below_drewN hb _⟩
      case measure => go_light; simp [intOf] <;> omega
    · have hkk : k = 256 := by omega
      subst hkk
      go_wp2
      go_ret
      exact ⟨rfl, B1.trans (hb.mono (B1.size))⟩
set_option maxRecDepth 100000 in
set_option maxHeartbeats 4000000 in
theorem countsAdds_w (s t : ByteArray) (w : World) (hs : s.size ≤ 9223372036854775807) (ht : t.size ≤ 9223372036854775807) :
    Calls Try.prog 7 #[.string s, .string t] w fun e w' => e = .returned (.bool true) ∧ Below w.heap.size w w' := by
  by_cases g1 : 200 < s.size
  · have g2 : (200 : Int) < (s.size : Int) := by omega
    go_enter Try.func7, Try.ntmps7
    go_wp2_with ((go_at_call 5; refine (countsKnown_w _).mono ?_; rintro e w1 ⟨rfl, hb⟩; have hsz := hb.size; (try simp at hsz)))
    repeat' (first | (go_region <;> go_wp2_with ((go_at_call 5; refine (countsKnown_w _).mono ?_; rintro e w1 ⟨rfl, hb⟩; have hsz := hb.size; (try simp at hsz)))))
    all_goals go_light
    all_goals (try simp only [beq_iff_eq, beq_eq_false_iff_ne, bne_iff_ne, bne_eq_false_iff_eq, ne_eq] at *)
    all_goals
      refine bodyPost_ret (v := .bool true) (by simp [results, Try.results7, go_sem, *]) rfl ⟨rfl, ?_⟩
      repeat' (first | exact Below.refl _ _ | refine Below.drew ?_ | refine below_drewN ?_ _ | refine Below.alloc ?_ (by first | omega | (simp <;> omega)) _ | refine Below.setCell ?_ (by first | omega | (simp <;> omega)) _ | refine Below.trans ?_ (Below.mono (by assumption) (by first | omega | (simp <;> omega))))
  · have g2 : ¬ (200 : Int) < (s.size : Int) := by omega
    by_cases g3 : 200 < t.size
    · have g4 : (200 : Int) < (t.size : Int) := by omega
      go_enter Try.func7, Try.ntmps7
      go_wp2_with ((go_at_call 5; refine (countsKnown_w _).mono ?_; rintro e w1 ⟨rfl, hb⟩; have hsz := hb.size; (try simp at hsz)))
      repeat' (first | (go_region <;> go_wp2_with ((go_at_call 5; refine (countsKnown_w _).mono ?_; rintro e w1 ⟨rfl, hb⟩; have hsz := hb.size; (try simp at hsz)))))
      all_goals go_light
      all_goals (try simp only [beq_iff_eq, beq_eq_false_iff_ne, bne_iff_ne, bne_eq_false_iff_eq, ne_eq] at *)
      all_goals
        refine bodyPost_ret (v := .bool true) (by simp [results, Try.results7, go_sem, *]) rfl ⟨rfl, ?_⟩
        repeat' (first | exact Below.refl _ _ | refine Below.drew ?_ | refine below_drewN ?_ _ | refine Below.alloc ?_ (by first | omega | (simp <;> omega)) _ | refine Below.setCell ?_ (by first | omega | (simp <;> omega)) _ | refine Below.trans ?_ (Below.mono (by assumption) (by first | omega | (simp <;> omega))))
    · have hst : (s ++ t).size ≤ 1048576 := by rw [ByteArray.size_append]; omega
      have hts : (t ++ s).size ≤ 1048576 := by rw [ByteArray.size_append]; omega
      have hY : tally 256 (bts (t ++ s)) = tally 256 (bts (s ++ t)) := tally_ext _ _ _ (fun j => by rw [bts_append, bts_append, List.count_append, List.count_append]; omega)
      have hck := tally_ok (bts (s ++ t)) (bts_lt _) (by rw [bts_len]; omega)
      have hsum := tally_sum 256 (bts (s ++ t)) (bts_lt _)
      rw [bts_len, ByteArray.size_append] at hsum
      have e1 : rTot (tally 256 (bts (s ++ t))) = ((s.size : Int) + (t.size : Int), 0) := by unfold rTot; rw [if_pos hck, hsum]; simp
      have e2 : rDist (tally 256 (bts (s ++ t))) = (((occ 0 (tally 256 (bts (s ++ t)))).length : Int), 0) := by unfold rDist; rw [if_pos hck]
      have hb1 : decide ((occ 0 (tally 256 (bts (s ++ t)))).length = 1) = (((occ 0 (tally 256 (bts (s ++ t)))).length : Int) == 1) := by
        by_cases h : (occ 0 (tally 256 (bts (s ++ t)))).length = 1
        · rw [h]; rfl
        · rw [decide_eq_false h]; symm; simp; omega
      have e3 : rOnly (tally 256 (bts (s ++ t))) = ((rOnly (tally 256 (bts (s ++ t)))).1, decide ((occ 0 (tally 256 (bts (s ++ t)))).length = 1), 0) := by
        unfold rOnly
        rw [if_pos hck]
        by_cases h : (occ 0 (tally 256 (bts (s ++ t)))).length = 1
        · rw [if_pos h, decide_eq_true h]
        · rw [if_neg h, decide_eq_false h]
      refine adds_1 s t w g2 (by omega) (occ 0 (tally 256 (bts (s ++ t)))).length (decide ((occ 0 (tally 256 (bts (s ++ t)))).length = 1)) (rOnly (tally 256 (bts (s ++ t)))).1 (tally 256 (bts s)) (tally 256 (bts t)) (tally 256 (bts (s ++ t))) (tally_len _ _) (tally_len _ _) (tally_len _ _)
        (fun z hz => by rw [bts_append]; exact tally_append_get _ _ _ _ hz) (fun z => by have := tally_le 256 (bts s) z; rw [bts_len] at this; omega) (fun z => by have := tally_le 256 (bts t) z; rw [bts_len] at this; omega) hb1
        (bytes_256 s (by omega)) (bytes_256 t (by omega)) (bytes_256 _ hst) (fun w => by have := bytes_256 _ hts w; rwa [hY] at this) ?_ ?_ ?_ ?_
      · intro a cap w h
        have := total_p a _ cap w h (by rw [tally_len]; omega)
        rwa [tally_len, e1] at this
      · intro a cap w h
        have := distinct_p a _ cap w h (by rw [tally_len]; omega)
        rwa [tally_len, e2] at this
      · intro a cap w h
        have := only_p a _ cap w h (by rw [tally_len]; omega)
        rwa [tally_len, e3] at this
      · intro w
        have := same_p (s ++ t) w (by omega)
        rwa [same_one] at this
end Go.Proofs.Ytgponpjlkebjcaa
