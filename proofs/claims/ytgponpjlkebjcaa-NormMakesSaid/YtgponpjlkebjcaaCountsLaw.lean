/-
  The statements' helpers about counts, walked.
-/
import Derived.Test.YtgponpjlkebjcaaRows
import Derived.Test.YtgponpjlkebjcaaCountsSpell
import Derived.Test.YtgponpjlkebjcaaCommon
import Derived.Deep.Light
import Derived.Shelf.Abstract
import Derived.Shelf.RegionOpen
import Derived.OwnWalkIn
import Derived.TacticsInMore
import Derived.LoopNIn
import Derived.LoopIn
namespace Go.Proofs.Ytgponpjlkebjcaa
open Go.RowKit
set_option linter.unusedSimpArgs false
set_option linter.unusedVariables false
attribute [local go_sem] Oper.semAt_some

theorem Row.of_block {k : IntKind} {w : World} {b : Nat} {cs : Array Value} {e : TypeId} {fr : Nat × Nat} {xs : List Int} (h : w.heap[b]? = some (.cells cs e fr)) (hx : cs = (xs.map (Value.int k)).toArray) : Row k w (some ⟨b, 0, none⟩) xs := by
  refine .inr ⟨b, 0, rfl, (Array.getElem?_eq_some_iff.1 h).1, fun i hi => ?_⟩
  simp [World.cell?, h, hx, hi]
theorem RowB.of_block {w : World} {b : Nat} {cs : Array Value} {e : TypeId} {fr : Nat × Nat} {xs : List Bool} (h : w.heap[b]? = some (.cells cs e fr)) (hx : cs = (xs.map Value.bool).toArray) : RowB w (some ⟨b, 0, none⟩) xs := by
  refine .inr ⟨b, 0, rfl, (Array.getElem?_eq_some_iff.1 h).1, fun i hi => ?_⟩
  simp [World.cell?, h, hx, hi]
theorem c_t (w : World) : Calls Try.prog 39 #[] w fun e w' => ∃ B, e = .returned (.slice (some ⟨B, 0, none⟩) 5 5) ∧ Hid (Row .i64 w' (some ⟨B, 0, none⟩) [0, 3, 0, 3, 1]) ∧ Below w.heap.size w w' := by
  go_enter Try.func39, Try.ntmps39
  go_wp2
  repeat' (first | (go_region <;> go_wp2))
  go_ret
  exact ⟨_, rfl, Row.of_block (heap_alloc_new _ _) rfl, (Below.refl _ w).alloc (Nat.le_refl _) _⟩
theorem kn_total (a : Option Addr) (cap : Nat) (w : World) (h : Row .i64 w a [0, 3, 0, 3, 1]) : Calls Try.prog 25 #[.slice a 5 cap] w fun e w' => e = .returned (.tuple #[.int .i64 7, .int .i64 0]) ∧ Below w.heap.size w w' := by
  have e : rTot [0, 3, 0, 3, 1] = (7, 0) := by decide
  have := total_p a [0, 3, 0, 3, 1] cap w h (by decide)
  rw [e] at this
  exact this
theorem kn_greatest (a : Option Addr) (cap : Nat) (w : World) (h : Row .i64 w a [0, 3, 0, 3, 1]) : Calls Try.prog 31 #[.slice a 5 cap] w fun e w' => e = .returned (.tuple #[.int .i64 1, .int .i64 3, .int .i64 0]) ∧ Below w.heap.size w w' := by
  have e : rGr [0, 3, 0, 3, 1] = (1, 3, 0) := by decide
  have := greatest_p a [0, 3, 0, 3, 1] cap w h (by decide)
  rw [e] at this
  exact this
theorem kn_check1 (a : Option Addr) (cap : Nat) (w : World) (h : Row .i64 w a [-1]) : Calls Try.prog 23 #[.slice a 1 cap] w fun e w' => e = .returned (.int .i64 2) ∧ Below w.heap.size w w' := by
  have e : cchk [-1] = 2 := by decide
  have := check_c a [-1] cap w h (by decide)
  rw [e] at this
  exact this
theorem kn_symbols (a : Option Addr) (cap : Nat) (w : World) (h : Row .i64 w a [1, 3, 1]) : Calls Try.prog 18 #[.slice a 3 cap, .int .i64 4] w fun e w' => ∃ pa ca, e = .returned (.tuple #[.slice pa 5 ca, .int .i64 0]) ∧ Hid (Row .i64 w' pa [0, 2, 0, 1, 0]) ∧ Below w.heap.size w w' := by
  have e : rSyms [1, 3, 1] 4 = ([0, 2, 0, 1, 0], 0) := by decide +kernel
  refine (symbols_p a [1, 3, 1] cap 4 w h (by decide)).mono ?_
  rw [e]
  rintro e w' ⟨pa, ca, rfl, hr, hb⟩
  exact ⟨pa, ca, rfl, hr, hb⟩
theorem kn_distinct (a : Option Addr) (cap : Nat) (w : World) (h : Row .i64 w a [0, 3, 0, 3, 1]) : Calls Try.prog 27 #[.slice a 5 cap] w fun e w' => e = .returned (.tuple #[.int .i64 3, .int .i64 0]) ∧ Below w.heap.size w w' := by
  have e : rDist [0, 3, 0, 3, 1] = (3, 0) := by decide
  have := distinct_p a [0, 3, 0, 3, 1] cap w h (by decide)
  rw [e] at this
  exact this
theorem kn_last (a : Option Addr) (cap : Nat) (w : World) (h : Row .i64 w a [0, 3, 0, 3, 1]) : Calls Try.prog 29 #[.slice a 5 cap] w fun e w' => e = .returned (.tuple #[.int .i64 4, .int .i64 0]) ∧ Below w.heap.size w w' := by
  have e : rLast [0, 3, 0, 3, 1] = (4, 0) := by decide
  have := last_p a [0, 3, 0, 3, 1] cap w h (by decide)
  rw [e] at this
  exact this
theorem kn_greatest0 (a : Option Addr) (cap : Nat) (w : World) (h : Row .i64 w a []) : Calls Try.prog 31 #[.slice a 0 cap] w fun e w' => e = .returned (.tuple #[.int .i64 0, .int .i64 0, .int .i64 7]) ∧ Below w.heap.size w w' := by
  have e : rGr [] = (0, 0, 7) := by decide
  have := greatest_p a [] cap w h (by decide)
  rw [e] at this
  exact this
theorem kn_halve (a : Option Addr) (cap : Nat) (w : World) (h : Row .i64 w a [0, 3, 0, 3, 1]) : Calls Try.prog 37 #[.slice a 5 cap] w fun e w' => ∃ pa ca, e = .returned (.tuple #[.slice pa 5 ca, .int .i64 0]) ∧ Hid (Row .i64 w' pa [0, 2, 0, 2, 1]) ∧ Below w.heap.size w w' := by
  have e : rHlv [0, 3, 0, 3, 1] = ([0, 2, 0, 2, 1], 0) := by decide +kernel
  refine (halve_p a [0, 3, 0, 3, 1] cap w h (by decide)).mono ?_
  rw [e]
  rintro e w' ⟨pa, ca, rfl, hr, hb⟩
  exact ⟨pa, ca, rfl, hr, hb⟩
theorem kn_symbols2 (a : Option Addr) (cap : Nat) (w : World) (h : Row .i64 w a [5]) : Calls Try.prog 18 #[.slice a 1 cap, .int .i64 4] w fun e w' => ∃ pa ca, e = .returned (.tuple #[.slice pa 0 ca, .int .i64 2]) ∧ Hid (Row .i64 w' pa []) ∧ Below w.heap.size w w' := by
  have e : rSyms [5] 4 = ([], 2) := by decide +kernel
  refine (symbols_p a [5] cap 4 w h (by decide)).mono ?_
  rw [e]
  rintro e w' ⟨pa, ca, rfl, hr, hb⟩
  exact ⟨pa, ca, rfl, hr, hb⟩
theorem kn_same (a b : Option Addr) (xs : List Int) (n ca cb : Nat) (w : World) (ha : Row .i64 w a xs) (hb : Row .i64 w b xs) (hn : n = xs.length) (hl : n ≤ 9223372036854775807) :
    Calls Try.prog 20 #[.slice a n ca, .slice b n cb] w fun e w' => e = .returned (.bool true) ∧ Below w.heap.size w w' := by
  subst hn
  have := sameInts_k a b xs xs ca cb w ha hb hl
  simpa using this
set_option maxHeartbeats 2000000 in
theorem awake_t (w : World) : Calls Try.prog 14 #[] w fun e w' => e = .returned (.bool true) ∧ Below w.heap.size w w' := by
  go_enter Try.func14, Try.ntmps14
  go_wp2_with (first | (go_at_call 39; refine (c_t _).mono ?_; rintro e w1 ⟨B, rfl, hrow, hb⟩; have hsz := hb.size; (try simp at hsz); (first | (have hbl := blater2 HA (by first | exact Nat.le_refl _ | (simp; done) | (simp; omega)) hb; obtain ⟨hcc, hff, HA, hne, hne'⟩ := hbl) | (obtain ⟨hcc, hff, HA, hne, hne'⟩ := blater1 hb)); (try simp only [World.size_alloc, World.size_setCell] at HA)) | (go_at_call 25; refine (kn_total _ _ _ (by first | exact hrow.out | exact Row.of_block (heap_alloc_new _ _) rfl | exact hrow.out.later (by repeat' (first | exact Below.refl _ _ | refine Below.drew ?_ | refine below_drewN ?_ _ | refine Below.alloc ?_ (by first | omega | (simp <;> omega)) _ | refine Below.setCell ?_ (by first | omega | (simp <;> omega)) _ | refine Below.trans ?_ (Below.mono (by assumption) (by first | omega | (simp <;> omega))))))).mono ?_; rintro e w1 ⟨rfl, hb⟩; have hsz := hb.size; (try simp at hsz); (first | (have hbl := blater2 HA (by first | exact Nat.le_refl _ | (simp; done) | (simp; omega)) hb; obtain ⟨hcc, hff, HA, hne, hne'⟩ := hbl) | (obtain ⟨hcc, hff, HA, hne, hne'⟩ := blater1 hb)); (try simp only [World.size_alloc, World.size_setCell] at HA)) | (go_at_call 31; refine (kn_greatest _ _ _ (by first | exact hrow.out | exact Row.of_block (heap_alloc_new _ _) rfl | exact hrow.out.later (by repeat' (first | exact Below.refl _ _ | refine Below.drew ?_ | refine below_drewN ?_ _ | refine Below.alloc ?_ (by first | omega | (simp <;> omega)) _ | refine Below.setCell ?_ (by first | omega | (simp <;> omega)) _ | refine Below.trans ?_ (Below.mono (by assumption) (by first | omega | (simp <;> omega))))))).mono ?_; rintro e w1 ⟨rfl, hb⟩; have hsz := hb.size; (try simp at hsz); (first | (have hbl := blater2 HA (by first | exact Nat.le_refl _ | (simp; done) | (simp; omega)) hb; obtain ⟨hcc, hff, HA, hne, hne'⟩ := hbl) | (obtain ⟨hcc, hff, HA, hne, hne'⟩ := blater1 hb)); (try simp only [World.size_alloc, World.size_setCell] at HA)) | (go_at_call 18; refine (kn_symbols _ _ _ (Row.of_block (heap_alloc_new _ _) rfl)).mono ?_; rintro e w1 ⟨ps, cs, rfl, hsy, hb⟩; have hsz := hb.size; (try simp at hsz); (first | (have hbl := blater2 HA (by first | exact Nat.le_refl _ | (simp; done) | (simp; omega)) hb; obtain ⟨hcc, hff, HA, hne, hne'⟩ := hbl) | (obtain ⟨hcc, hff, HA, hne, hne'⟩ := blater1 hb)); (try simp only [World.size_alloc, World.size_setCell] at HA)) | (go_at_call 20; refine (kn_same _ _ [0, 2, 0, 1, 0] _ _ _ _ (hsy.out.later (by repeat' (first | exact Below.refl _ _ | refine Below.drew ?_ | refine below_drewN ?_ _ | refine Below.alloc ?_ (by first | omega | (simp <;> omega)) _ | refine Below.setCell ?_ (by first | omega | (simp <;> omega)) _ | refine Below.trans ?_ (Below.mono (by assumption) (by first | omega | (simp <;> omega)))))) (Row.of_block (heap_alloc_new _ _) rfl) rfl (by decide)).mono ?_; rintro e w1 ⟨rfl, hb⟩; have hsz := hb.size; (try simp at hsz); (first | (have hbl := blater2 HA (by first | exact Nat.le_refl _ | (simp; done) | (simp; omega)) hb; obtain ⟨hcc, hff, HA, hne, hne'⟩ := hbl) | (obtain ⟨hcc, hff, HA, hne, hne'⟩ := blater1 hb)); (try simp only [World.size_alloc, World.size_setCell] at HA)) | (go_at_call 23; refine (kn_check1 _ _ _ (Row.of_block (heap_alloc_new _ _) rfl)).mono ?_; rintro e w1 ⟨rfl, hb⟩; have hsz := hb.size; (try simp at hsz); (first | (have hbl := blater2 HA (by first | exact Nat.le_refl _ | (simp; done) | (simp; omega)) hb; obtain ⟨hcc, hff, HA, hne, hne'⟩ := hbl) | (obtain ⟨hcc, hff, HA, hne, hne'⟩ := blater1 hb)); (try simp only [World.size_alloc, World.size_setCell] at HA)))
  repeat' (first | (go_region <;> go_wp2_with (first | (go_at_call 39; refine (c_t _).mono ?_; rintro e w1 ⟨B, rfl, hrow, hb⟩; have hsz := hb.size; (try simp at hsz); (first | (have hbl := blater2 HA (by first | exact Nat.le_refl _ | (simp; done) | (simp; omega)) hb; obtain ⟨hcc, hff, HA, hne, hne'⟩ := hbl) | (obtain ⟨hcc, hff, HA, hne, hne'⟩ := blater1 hb)); (try simp only [World.size_alloc, World.size_setCell] at HA)) | (go_at_call 25; refine (kn_total _ _ _ (by first | exact hrow.out | exact Row.of_block (heap_alloc_new _ _) rfl | exact hrow.out.later (by repeat' (first | exact Below.refl _ _ | refine Below.drew ?_ | refine below_drewN ?_ _ | refine Below.alloc ?_ (by first | omega | (simp <;> omega)) _ | refine Below.setCell ?_ (by first | omega | (simp <;> omega)) _ | refine Below.trans ?_ (Below.mono (by assumption) (by first | omega | (simp <;> omega))))))).mono ?_; rintro e w1 ⟨rfl, hb⟩; have hsz := hb.size; (try simp at hsz); (first | (have hbl := blater2 HA (by first | exact Nat.le_refl _ | (simp; done) | (simp; omega)) hb; obtain ⟨hcc, hff, HA, hne, hne'⟩ := hbl) | (obtain ⟨hcc, hff, HA, hne, hne'⟩ := blater1 hb)); (try simp only [World.size_alloc, World.size_setCell] at HA)) | (go_at_call 31; refine (kn_greatest _ _ _ (by first | exact hrow.out | exact Row.of_block (heap_alloc_new _ _) rfl | exact hrow.out.later (by repeat' (first | exact Below.refl _ _ | refine Below.drew ?_ | refine below_drewN ?_ _ | refine Below.alloc ?_ (by first | omega | (simp <;> omega)) _ | refine Below.setCell ?_ (by first | omega | (simp <;> omega)) _ | refine Below.trans ?_ (Below.mono (by assumption) (by first | omega | (simp <;> omega))))))).mono ?_; rintro e w1 ⟨rfl, hb⟩; have hsz := hb.size; (try simp at hsz); (first | (have hbl := blater2 HA (by first | exact Nat.le_refl _ | (simp; done) | (simp; omega)) hb; obtain ⟨hcc, hff, HA, hne, hne'⟩ := hbl) | (obtain ⟨hcc, hff, HA, hne, hne'⟩ := blater1 hb)); (try simp only [World.size_alloc, World.size_setCell] at HA)) | (go_at_call 18; refine (kn_symbols _ _ _ (Row.of_block (heap_alloc_new _ _) rfl)).mono ?_; rintro e w1 ⟨ps, cs, rfl, hsy, hb⟩; have hsz := hb.size; (try simp at hsz); (first | (have hbl := blater2 HA (by first | exact Nat.le_refl _ | (simp; done) | (simp; omega)) hb; obtain ⟨hcc, hff, HA, hne, hne'⟩ := hbl) | (obtain ⟨hcc, hff, HA, hne, hne'⟩ := blater1 hb)); (try simp only [World.size_alloc, World.size_setCell] at HA)) | (go_at_call 20; refine (kn_same _ _ [0, 2, 0, 1, 0] _ _ _ _ (hsy.out.later (by repeat' (first | exact Below.refl _ _ | refine Below.drew ?_ | refine below_drewN ?_ _ | refine Below.alloc ?_ (by first | omega | (simp <;> omega)) _ | refine Below.setCell ?_ (by first | omega | (simp <;> omega)) _ | refine Below.trans ?_ (Below.mono (by assumption) (by first | omega | (simp <;> omega)))))) (Row.of_block (heap_alloc_new _ _) rfl) rfl (by decide)).mono ?_; rintro e w1 ⟨rfl, hb⟩; have hsz := hb.size; (try simp at hsz); (first | (have hbl := blater2 HA (by first | exact Nat.le_refl _ | (simp; done) | (simp; omega)) hb; obtain ⟨hcc, hff, HA, hne, hne'⟩ := hbl) | (obtain ⟨hcc, hff, HA, hne, hne'⟩ := blater1 hb)); (try simp only [World.size_alloc, World.size_setCell] at HA)) | (go_at_call 23; refine (kn_check1 _ _ _ (Row.of_block (heap_alloc_new _ _) rfl)).mono ?_; rintro e w1 ⟨rfl, hb⟩; have hsz := hb.size; (try simp at hsz); (first | (have hbl := blater2 HA (by first | exact Nat.le_refl _ | (simp; done) | (simp; omega)) hb; obtain ⟨hcc, hff, HA, hne, hne'⟩ := hbl) | (obtain ⟨hcc, hff, HA, hne, hne'⟩ := blater1 hb)); (try simp only [World.size_alloc, World.size_setCell] at HA)))))
  all_goals go_light
  all_goals (try simp only [beq_iff_eq, beq_eq_false_iff_ne, bne_iff_ne, bne_eq_false_iff_eq, ne_eq] at *)
  all_goals
    refine bodyPost_ret (v := .bool true) (by simp [results, Try.results14, go_sem, *]) rfl ⟨rfl, ?_⟩
    repeat' (first | exact Below.refl _ _ | refine Below.drew ?_ | refine below_drewN ?_ _ | refine Below.alloc ?_ (by first | omega | (simp <;> omega)) _ | refine Below.setCell ?_ (by first | omega | (simp <;> omega)) _ | refine Below.trans ?_ (Below.mono (by assumption) (by first | omega | (simp <;> omega))))

theorem rBytes_len (s : ByteArray) : (rBytes s).1.length ≤ 9223372036854775807 := by
  unfold rBytes; split
  · simp
  · simp [tally_len]
theorem rSyms_len (xs : List Int) (m : Int) : (rSyms xs m).1.length ≤ 9223372036854775807 := by
  unfold rSyms rSyms1
  split
  · simp
  · split
    · simp
    · split
      · simp only [tally_len]; omega
      · simp
set_option maxHeartbeats 4000000 in
theorem countsOf_w (s : ByteArray) (a : Option Addr) (xs : List Int) (cap : Nat) (m : Int) (w : World) (hs : s.size ≤ 9223372036854775807) (ha : Row .i64 w a xs) (hw : ∀ n ∈ xs, (Lit.int .i64 n).wf = true) (hl : xs.length ≤ 9223372036854775807) (hm : (Lit.int .i64 m).wf = true) : Calls Try.prog 3 #[.string s, .slice a xs.length cap, .int .i64 m] w fun e w' => e = .returned (.bool true) ∧ Below w.heap.size w w' := by
  have hl1 := rBytes_len s
  have hl2 := rSyms_len xs m
  by_cases g1 : 300 < s.size
  · have g2 : (300 : Int) < (s.size : Int) := by omega
    go_enter Try.func3, Try.ntmps3
    go_wp2_with ((go_at_call 14; refine (awake_t _).mono ?_; rintro e w1 ⟨rfl, hb⟩; have hsz := hb.size; (try simp at hsz)))
    repeat' (first | (go_region <;> go_wp2_with ((go_at_call 14; refine (awake_t _).mono ?_; rintro e w1 ⟨rfl, hb⟩; have hsz := hb.size; (try simp at hsz)))))
    all_goals go_light
    all_goals (try simp only [beq_iff_eq, beq_eq_false_iff_ne, bne_iff_ne, bne_eq_false_iff_eq, ne_eq] at *)
    all_goals
      refine bodyPost_ret (v := .bool true) (by simp [results, Try.results3, go_sem, *]) rfl ⟨rfl, ?_⟩
      repeat' (first | exact Below.refl _ _ | refine Below.drew ?_ | refine below_drewN ?_ _ | refine Below.alloc ?_ (by first | omega | (simp <;> omega)) _ | refine Below.setCell ?_ (by first | omega | (simp <;> omega)) _ | refine Below.trans ?_ (Below.mono (by assumption) (by first | omega | (simp <;> omega))))
  · have g2 : ¬ (300 : Int) < (s.size : Int) := by omega
    by_cases g3 : 300 < xs.length
    · have g4 : (300 : Int) < (xs.length : Int) := by omega
      go_enter Try.func3, Try.ntmps3
      go_wp2_with ((go_at_call 14; refine (awake_t _).mono ?_; rintro e w1 ⟨rfl, hb⟩; have hsz := hb.size; (try simp at hsz)))
      repeat' (first | (go_region <;> go_wp2_with ((go_at_call 14; refine (awake_t _).mono ?_; rintro e w1 ⟨rfl, hb⟩; have hsz := hb.size; (try simp at hsz)))))
      all_goals go_light
      all_goals (try simp only [beq_iff_eq, beq_eq_false_iff_ne, bne_iff_ne, bne_eq_false_iff_eq, ne_eq] at *)
      all_goals
        refine bodyPost_ret (v := .bool true) (by simp [results, Try.results3, go_sem, *]) rfl ⟨rfl, ?_⟩
        repeat' (first | exact Below.refl _ _ | refine Below.drew ?_ | refine below_drewN ?_ _ | refine Below.alloc ?_ (by first | omega | (simp <;> omega)) _ | refine Below.setCell ?_ (by first | omega | (simp <;> omega)) _ | refine Below.trans ?_ (Below.mono (by assumption) (by first | omega | (simp <;> omega))))
    · have g4 : ¬ (300 : Int) < (xs.length : Int) := by omega
      have qB := fun w => bytes_p s w hs
      have qB2 := fun w => rbytes_p s w hs
      have qX := fun a cap w h => symbols_p a xs cap m w h hl
      have qX2 := fun a cap w h => rsymbols_p a xs cap m w h hl
      generalize rBytes s = RB at hl1 qB qB2
      generalize rSyms xs m = RX at hl2 qX qX2
      go_enter Try.func3, Try.ntmps3
      go_wp2_with (first | (go_at_call 14; refine (awake_t _).mono ?_; rintro e w1 ⟨rfl, hb⟩; have hsz := hb.size; (try simp at hsz)) | (go_at_call 15; refine (ownInts_k _ _ _ _ ha (by omega)).mono ?_; rintro e w1 ⟨ph, ch, rfl, hrh, hb⟩; have hsz := hb.size; (try simp at hsz)) | (go_at_call 16; refine (qB _).mono ?_; rintro e w1 ⟨pA, cA, rfl, hrA, hb⟩; have hsz := hb.size; (try simp at hsz)) | (go_at_call 17; refine (qB2 _).mono ?_; rintro e w1 ⟨pB, cB, rfl, hrB, hb⟩; have hsz := hb.size; (try simp at hsz)) | (go_at_call 18; refine (qX _ _ _ (hrh.later (by repeat' (first | exact Below.refl _ _ | refine Below.drew ?_ | refine below_drewN ?_ _ | refine Below.alloc ?_ (by first | omega | (simp <;> omega)) _ | refine Below.setCell ?_ (by first | omega | (simp <;> omega)) _ | refine Below.trans ?_ (Below.mono (by assumption) (by first | omega | (simp <;> omega))))))).mono ?_; rintro e w1 ⟨pX, cX, rfl, hrX, hb⟩; have hsz := hb.size; (try simp at hsz)) | (go_at_call 19; refine (qX2 _ _ _ (ha.later (by repeat' (first | exact Below.refl _ _ | refine Below.drew ?_ | refine below_drewN ?_ _ | refine Below.alloc ?_ (by first | omega | (simp <;> omega)) _ | refine Below.setCell ?_ (by first | omega | (simp <;> omega)) _ | refine Below.trans ?_ (Below.mono (by assumption) (by first | omega | (simp <;> omega))))))).mono ?_; rintro e w1 ⟨pY, cY, rfl, hrY, hb⟩; have hsz := hb.size; (try simp at hsz)) | (go_at_call 20; with_reducible refine (kn_same _ _ RB.1 _ _ _ _ (hrA.later (by repeat' (first | exact Below.refl _ _ | refine Below.drew ?_ | refine below_drewN ?_ _ | refine Below.alloc ?_ (by first | omega | (simp <;> omega)) _ | refine Below.setCell ?_ (by first | omega | (simp <;> omega)) _ | refine Below.trans ?_ (Below.mono (by assumption) (by first | omega | (simp <;> omega)))))) (hrB.later (by repeat' (first | exact Below.refl _ _ | refine Below.drew ?_ | refine below_drewN ?_ _ | refine Below.alloc ?_ (by first | omega | (simp <;> omega)) _ | refine Below.setCell ?_ (by first | omega | (simp <;> omega)) _ | refine Below.trans ?_ (Below.mono (by assumption) (by first | omega | (simp <;> omega)))))) rfl hl1).mono ?_; rintro e w1 ⟨rfl, hb⟩; have hsz := hb.size; (try simp at hsz)) | (go_at_call 20; with_reducible refine (kn_same _ _ RX.1 _ _ _ _ (hrX.later (by repeat' (first | exact Below.refl _ _ | refine Below.drew ?_ | refine below_drewN ?_ _ | refine Below.alloc ?_ (by first | omega | (simp <;> omega)) _ | refine Below.setCell ?_ (by first | omega | (simp <;> omega)) _ | refine Below.trans ?_ (Below.mono (by assumption) (by first | omega | (simp <;> omega)))))) (hrY.later (by repeat' (first | exact Below.refl _ _ | refine Below.drew ?_ | refine below_drewN ?_ _ | refine Below.alloc ?_ (by first | omega | (simp <;> omega)) _ | refine Below.setCell ?_ (by first | omega | (simp <;> omega)) _ | refine Below.trans ?_ (Below.mono (by assumption) (by first | omega | (simp <;> omega)))))) rfl hl2).mono ?_; rintro e w1 ⟨rfl, hb⟩; have hsz := hb.size; (try simp at hsz)) | (go_at_call 20; with_reducible refine (kn_same _ _ xs _ _ _ _ (hrh.later (by repeat' (first | exact Below.refl _ _ | refine Below.drew ?_ | refine below_drewN ?_ _ | refine Below.alloc ?_ (by first | omega | (simp <;> omega)) _ | refine Below.setCell ?_ (by first | omega | (simp <;> omega)) _ | refine Below.trans ?_ (Below.mono (by assumption) (by first | omega | (simp <;> omega)))))) (ha.later (by repeat' (first | exact Below.refl _ _ | refine Below.drew ?_ | refine below_drewN ?_ _ | refine Below.alloc ?_ (by first | omega | (simp <;> omega)) _ | refine Below.setCell ?_ (by first | omega | (simp <;> omega)) _ | refine Below.trans ?_ (Below.mono (by assumption) (by first | omega | (simp <;> omega)))))) rfl hl).mono ?_; rintro e w1 ⟨rfl, hb⟩; have hsz := hb.size; (try simp at hsz)) | (go_at_call 21; refine (same_p _ _ hs).mono ?_; rintro e w1 ⟨rfl, hb⟩; have hsz := hb.size; (try simp at hsz)) | (go_at_call 22; refine (rsame_p _ _ hs).mono ?_; rintro e w1 ⟨rfl, hb⟩; have hsz := hb.size; (try simp at hsz)))
      repeat' (first | (go_region <;> go_wp2_with (first | (go_at_call 14; refine (awake_t _).mono ?_; rintro e w1 ⟨rfl, hb⟩; have hsz := hb.size; (try simp at hsz)) | (go_at_call 15; refine (ownInts_k _ _ _ _ ha (by omega)).mono ?_; rintro e w1 ⟨ph, ch, rfl, hrh, hb⟩; have hsz := hb.size; (try simp at hsz)) | (go_at_call 16; refine (qB _).mono ?_; rintro e w1 ⟨pA, cA, rfl, hrA, hb⟩; have hsz := hb.size; (try simp at hsz)) | (go_at_call 17; refine (qB2 _).mono ?_; rintro e w1 ⟨pB, cB, rfl, hrB, hb⟩; have hsz := hb.size; (try simp at hsz)) | (go_at_call 18; refine (qX _ _ _ (hrh.later (by repeat' (first | exact Below.refl _ _ | refine Below.drew ?_ | refine below_drewN ?_ _ | refine Below.alloc ?_ (by first | omega | (simp <;> omega)) _ | refine Below.setCell ?_ (by first | omega | (simp <;> omega)) _ | refine Below.trans ?_ (Below.mono (by assumption) (by first | omega | (simp <;> omega))))))).mono ?_; rintro e w1 ⟨pX, cX, rfl, hrX, hb⟩; have hsz := hb.size; (try simp at hsz)) | (go_at_call 19; refine (qX2 _ _ _ (ha.later (by repeat' (first | exact Below.refl _ _ | refine Below.drew ?_ | refine below_drewN ?_ _ | refine Below.alloc ?_ (by first | omega | (simp <;> omega)) _ | refine Below.setCell ?_ (by first | omega | (simp <;> omega)) _ | refine Below.trans ?_ (Below.mono (by assumption) (by first | omega | (simp <;> omega))))))).mono ?_; rintro e w1 ⟨pY, cY, rfl, hrY, hb⟩; have hsz := hb.size; (try simp at hsz)) | (go_at_call 20; with_reducible refine (kn_same _ _ RB.1 _ _ _ _ (hrA.later (by repeat' (first | exact Below.refl _ _ | refine Below.drew ?_ | refine below_drewN ?_ _ | refine Below.alloc ?_ (by first | omega | (simp <;> omega)) _ | refine Below.setCell ?_ (by first | omega | (simp <;> omega)) _ | refine Below.trans ?_ (Below.mono (by assumption) (by first | omega | (simp <;> omega)))))) (hrB.later (by repeat' (first | exact Below.refl _ _ | refine Below.drew ?_ | refine below_drewN ?_ _ | refine Below.alloc ?_ (by first | omega | (simp <;> omega)) _ | refine Below.setCell ?_ (by first | omega | (simp <;> omega)) _ | refine Below.trans ?_ (Below.mono (by assumption) (by first | omega | (simp <;> omega)))))) rfl hl1).mono ?_; rintro e w1 ⟨rfl, hb⟩; have hsz := hb.size; (try simp at hsz)) | (go_at_call 20; with_reducible refine (kn_same _ _ RX.1 _ _ _ _ (hrX.later (by repeat' (first | exact Below.refl _ _ | refine Below.drew ?_ | refine below_drewN ?_ _ | refine Below.alloc ?_ (by first | omega | (simp <;> omega)) _ | refine Below.setCell ?_ (by first | omega | (simp <;> omega)) _ | refine Below.trans ?_ (Below.mono (by assumption) (by first | omega | (simp <;> omega)))))) (hrY.later (by repeat' (first | exact Below.refl _ _ | refine Below.drew ?_ | refine below_drewN ?_ _ | refine Below.alloc ?_ (by first | omega | (simp <;> omega)) _ | refine Below.setCell ?_ (by first | omega | (simp <;> omega)) _ | refine Below.trans ?_ (Below.mono (by assumption) (by first | omega | (simp <;> omega)))))) rfl hl2).mono ?_; rintro e w1 ⟨rfl, hb⟩; have hsz := hb.size; (try simp at hsz)) | (go_at_call 20; with_reducible refine (kn_same _ _ xs _ _ _ _ (hrh.later (by repeat' (first | exact Below.refl _ _ | refine Below.drew ?_ | refine below_drewN ?_ _ | refine Below.alloc ?_ (by first | omega | (simp <;> omega)) _ | refine Below.setCell ?_ (by first | omega | (simp <;> omega)) _ | refine Below.trans ?_ (Below.mono (by assumption) (by first | omega | (simp <;> omega)))))) (ha.later (by repeat' (first | exact Below.refl _ _ | refine Below.drew ?_ | refine below_drewN ?_ _ | refine Below.alloc ?_ (by first | omega | (simp <;> omega)) _ | refine Below.setCell ?_ (by first | omega | (simp <;> omega)) _ | refine Below.trans ?_ (Below.mono (by assumption) (by first | omega | (simp <;> omega)))))) rfl hl).mono ?_; rintro e w1 ⟨rfl, hb⟩; have hsz := hb.size; (try simp at hsz)) | (go_at_call 21; refine (same_p _ _ hs).mono ?_; rintro e w1 ⟨rfl, hb⟩; have hsz := hb.size; (try simp at hsz)) | (go_at_call 22; refine (rsame_p _ _ hs).mono ?_; rintro e w1 ⟨rfl, hb⟩; have hsz := hb.size; (try simp at hsz)))))
      all_goals go_light
      all_goals (try simp only [beq_iff_eq, beq_eq_false_iff_ne, bne_iff_ne, bne_eq_false_iff_eq, ne_eq] at *)
      all_goals
        refine bodyPost_ret (v := .bool true) (by simp [results, Try.results3, go_sem, *]) rfl ⟨rfl, ?_⟩
        repeat' (first | exact Below.refl _ _ | refine Below.drew ?_ | refine below_drewN ?_ _ | refine Below.alloc ?_ (by first | omega | (simp <;> omega)) _ | refine Below.setCell ?_ (by first | omega | (simp <;> omega)) _ | refine Below.trans ?_ (Below.mono (by assumption) (by first | omega | (simp <;> omega))))
end Go.Proofs.Ytgponpjlkebjcaa
