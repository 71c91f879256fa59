/-
  The check of sequences, walked: of the program and of the reference.
-/
import Derived.Test.YtmblpmaelglnpaaDoorRows
import Derived.Test.YtmblpmaelglnpaaDoorRepsRunIter
import Derived.Test.YtmblpmaelglnpaaDoorGBase
import Derived.Deep.Light
import Derived.Shelf.Abstract
import Derived.Shelf.RegionOpen
import Derived.OwnWalkIn
import Derived.TacticsInMore
import Derived.LoopNIn
import Derived.LoopIn
import Derived.Outline
namespace Go.Proofs.YtmblpmaelglnpaaDoor
open Go.RowKit
set_option linter.unusedSimpArgs false
set_option linter.unusedVariables false
open Go.Shelf
attribute [local go_sem] Oper.semAt_some

/-- Is the sequence right? -/
def sok (q : Int × Int × Int) : Bool := decide (0 ≤ q.1) && decide (q.1 ≤ 131072) && decide (3 ≤ q.2.1) && decide (q.2.1 ≤ 131074) && decide (1 ≤ q.2.2) && decide (q.2.2 ≤ 2147483651)
/-- The error of sequences. -/
def schk (qs : List (Int × Int × Int)) : Int := if 98303 < qs.length then 6 else if qs.all sok then 0 else 2
theorem schk_full {qs : List (Int × Int × Int)} (h : 98303 < qs.length) : schk qs = 6 := by unfold schk; rw [if_pos h]
theorem schk_ok {qs : List (Int × Int × Int)} (h : ¬ 98303 < qs.length) (hs : qs.all sok = true) : schk qs = 0 := by unfold schk; rw [if_neg h, if_pos hs]
theorem schk_bad {qs : List (Int × Int × Int)} (h : ¬ 98303 < qs.length) {k : Nat} (hk : k < qs.length) {q : Int × Int × Int} (hq : qs.getD k (0, 0, 0) = q) (hs : sok q = false) : schk qs = 2 := by
  unfold schk
  rw [if_neg h, if_neg]
  intro ha
  rw [List.all_eq_true] at ha
  have := ha (qs.getD k (0, 0, 0)) (by rw [List.getD_eq_getElem?_getD, List.getElem?_eq_getElem hk]; simp)
  rw [hq, hs] at this
  cases this
theorem sok_take {qs : List (Int × Int × Int)} {k : Nat} (hk : k < qs.length) {q : Int × Int × Int} (hq : qs.getD k (0, 0, 0) = q) (h : (qs.take k).all sok = true) (hs : sok q = true) : (qs.take (k + 1)).all sok = true := by
  have e : qs[k] = q := by rw [← hq, List.getD_eq_getElem?_getD, List.getElem?_eq_getElem hk]; rfl
  rw [List.take_add_one, List.getElem?_eq_getElem hk, e, List.all_append, h]
  simp [hs]
theorem schk_get {qs : List (Int × Int × Int)} (h : schk qs = 0) : qs.length ≤ 98303 ∧ ∀ k, k < qs.length → ∀ li ma of, qs.getD k (0, 0, 0) = (li, ma, of) → 0 ≤ li ∧ li ≤ 131072 ∧ 3 ≤ ma ∧ ma ≤ 131074 ∧ 1 ≤ of ∧ of ≤ 2147483651 := by
  unfold schk at h
  by_cases h1 : 98303 < qs.length
  · rw [if_pos h1] at h; simp at h
  · rw [if_neg h1] at h
    by_cases h2 : qs.all sok = true
    · refine ⟨by omega, fun k hk li ma of hq => ?_⟩
      rw [List.all_eq_true] at h2
      have := h2 (qs.getD k (0, 0, 0)) (by rw [List.getD_eq_getElem?_getD, List.getElem?_eq_getElem hk]; simp)
      rw [hq] at this
      unfold sok at this
      simp only [Bool.and_eq_true, decide_eq_true_eq] at this
      omega
    · rw [if_neg h2] at h; simp at h

set_option maxRecDepth 100000 in
set_option maxHeartbeats 4000000 in
theorem scheck_p (a : Option Addr) (qs : List (Int × Int × Int)) (cap : Nat) (w : World) (ha : RowQ w a qs) (hl : qs.length ≤ 9223372036854775807) :
    Calls Tryd.prog 27 #[.slice a qs.length cap] w fun e w' => e = .returned (.int .i64 (schk qs)) ∧ Below w.heap.size w w' := by
  by_cases h : 98303 < qs.length
  · have e0 : decide ((98303 : Int) < (qs.length : Int)) = true := by simp; omega
    have e1 : decide (98303 < qs.length) = true := by simpa using h
    rw [schk_full h]
    clear h
    go_enter Tryd.func27, Tryd.ntmps27
    go_wp2
    repeat' (first | (go_region <;> go_wp2))
    all_goals go_light
    all_goals (try simp only [beq_iff_eq, beq_eq_false_iff_ne, bne_iff_ne, bne_eq_false_iff_eq, ne_eq] at *)
    all_goals
      refine bodyPost_ret (v := .int .i64 6) (by simp [results, Tryd.results27, go_sem, *]) rfl ⟨rfl, ?_⟩
      repeat' (first | exact Below.refl _ _ | refine Below.drew ?_ | refine below_drewN ?_ _ | refine Below.alloc ?_ (by first | omega | (simp <;> omega)) _ | refine Below.setCell ?_ (by first | omega | (simp <;> omega)) _ | refine Below.trans ?_ (Below.mono (by assumption) (by first | omega | (simp <;> omega))))
  · have e0 : decide ((98303 : Int) < (qs.length : Int)) = false := by simp; omega
    have hl2 : (qs.length : Int) ≤ 98303 := by omega
    have H6 := Lib.hid h
    clear h
    go_enter Tryd.func27, Tryd.ntmps27
    go_wp2
    go_loopw [10] (fun i wr => ∃ (k : Nat), k ≤ qs.length ∧ i = .int .i64 k ∧ Hid ((qs.take k).all sok = true) ∧ Below w.heap.size w wr) (fun i _ => qs.length - (intOf i).toNat)
    case atStart => exact ⟨0, by omega, rfl, rfl, Below.refl _ _⟩
    case round =>
      obtain ⟨k, hk, rfl, HS, hb⟩ := hrel
      by_cases hlt : k < qs.length
      · obtain ⟨b1, o1, rfl, hb2, hc2⟩ := (ha.later hb).at hlt
        obtain ⟨c0, c1, c2⟩ := hc2 k hlt
        obtain ⟨⟨li, ma, of⟩, hx⟩ : ∃ q, qs.getD k (0, 0, 0) = q := ⟨_, rfl⟩
        rw [hx] at c0 c1 c2
        have HX := Lib.hid hx
        dsimp only at c0 c1 c2
        have i0 : (0 : Int) ≤ (k : Int) := by omega
        have i1 : (k : Int) < (qs.length : Int) := by omega
        have hbz := hb.size
        have n1 : ¬ b1 = wr.heap.size := by omega
        have n2 : ¬ wr.heap.size = b1 := by omega
        clear hc2 hx e0
        by_cases hs : sok (li, ma, of) = true
        · have HB := Lib.hid (sok_take hlt HX.out HS.out hs)
          unfold sok at hs
          simp only [Bool.and_eq_true, decide_eq_true_eq] at hs
          obtain ⟨⟨⟨⟨⟨s1, s2⟩, s3⟩, s4⟩, s5⟩, s6⟩ := hs
          have g0 : decide (li < 0) = false := by simp; omega
          have g1 : decide (131072 < li) = false := by simp; omega
          have g2 : decide (ma < 3) = false := by simp; omega
          have g3 : decide (131074 < ma) = false := by simp; omega
          have g4 : decide (of < 1) = false := by simp; omega
          have g5 : decide (2147483651 < of) = false := by simp; omega
          clear HS
          go_wp2
          go_roundw
          case rel =>
            refine ⟨k + 1, by omega, by go_num, HB, ?_⟩
            repeat' (first | exact Below.refl _ _ | refine Below.drew ?_ | refine below_drewN ?_ _ | refine Below.alloc ?_ (by first | omega | (simp <;> omega)) _ | refine Below.setCell ?_ (by first | omega | (simp <;> omega)) _ | refine Below.trans ?_ (Below.mono (by assumption) (by first | omega | (simp <;> omega))))
          case measure => go_light; simp [intOf] <;> omega
        · have hbad : schk qs = 2 := schk_bad H6.out hlt HX.out (by simpa using hs)
          have HBAD := Lib.hid hbad
          have hs2 : li < 0 ∨ 131072 < li ∨ ma < 3 ∨ 131074 < ma ∨ of < 1 ∨ 2147483651 < of := by
            by_cases hn : li < 0 ∨ 131072 < li ∨ ma < 3 ∨ 131074 < ma ∨ of < 1 ∨ 2147483651 < of
            · exact hn
            · exfalso
              apply hs
              unfold sok
              simp only [Bool.and_eq_true, decide_eq_true_eq]
              omega
          clear hs HS hbad HX H6
          by_cases t0 : li < 0
          · have g0 : decide (li < 0) = true := by simpa using t0
            clear hs2 t0
            go_wp2
            go_light
            refine bodyPost_ret (v := .int .i64 2) (by simp [results, Tryd.results27, go_sem, *]) rfl ⟨by rw [HBAD.out], ?_⟩
            repeat' (first | exact Below.refl _ _ | refine Below.drew ?_ | refine below_drewN ?_ _ | refine Below.alloc ?_ (by first | omega | (simp <;> omega)) _ | refine Below.setCell ?_ (by first | omega | (simp <;> omega)) _ | refine Below.trans ?_ (Below.mono (by assumption) (by first | omega | (simp <;> omega))))
          have g0 : decide (li < 0) = false := by simpa using t0
          by_cases t1 : 131072 < li
          · have g1 : decide (131072 < li) = true := by simpa using t1
            clear hs2 t1
            go_wp2
            go_light
            refine bodyPost_ret (v := .int .i64 2) (by simp [results, Tryd.results27, go_sem, *]) rfl ⟨by rw [HBAD.out], ?_⟩
            repeat' (first | exact Below.refl _ _ | refine Below.drew ?_ | refine below_drewN ?_ _ | refine Below.alloc ?_ (by first | omega | (simp <;> omega)) _ | refine Below.setCell ?_ (by first | omega | (simp <;> omega)) _ | refine Below.trans ?_ (Below.mono (by assumption) (by first | omega | (simp <;> omega))))
          have g1 : decide (131072 < li) = false := by simpa using t1
          by_cases t2 : ma < 3
          · have g2 : decide (ma < 3) = true := by simpa using t2
            clear hs2 t2
            go_wp2
            go_light
            refine bodyPost_ret (v := .int .i64 2) (by simp [results, Tryd.results27, go_sem, *]) rfl ⟨by rw [HBAD.out], ?_⟩
            repeat' (first | exact Below.refl _ _ | refine Below.drew ?_ | refine below_drewN ?_ _ | refine Below.alloc ?_ (by first | omega | (simp <;> omega)) _ | refine Below.setCell ?_ (by first | omega | (simp <;> omega)) _ | refine Below.trans ?_ (Below.mono (by assumption) (by first | omega | (simp <;> omega))))
          have g2 : decide (ma < 3) = false := by simpa using t2
          by_cases t3 : 131074 < ma
          · have g3 : decide (131074 < ma) = true := by simpa using t3
            clear hs2 t3
            go_wp2
            go_light
            refine bodyPost_ret (v := .int .i64 2) (by simp [results, Tryd.results27, go_sem, *]) rfl ⟨by rw [HBAD.out], ?_⟩
            repeat' (first | exact Below.refl _ _ | refine Below.drew ?_ | refine below_drewN ?_ _ | refine Below.alloc ?_ (by first | omega | (simp <;> omega)) _ | refine Below.setCell ?_ (by first | omega | (simp <;> omega)) _ | refine Below.trans ?_ (Below.mono (by assumption) (by first | omega | (simp <;> omega))))
          have g3 : decide (131074 < ma) = false := by simpa using t3
          by_cases t4 : of < 1
          · have g4 : decide (of < 1) = true := by simpa using t4
            clear hs2 t4
            go_wp2
            go_light
            refine bodyPost_ret (v := .int .i64 2) (by simp [results, Tryd.results27, go_sem, *]) rfl ⟨by rw [HBAD.out], ?_⟩
            repeat' (first | exact Below.refl _ _ | refine Below.drew ?_ | refine below_drewN ?_ _ | refine Below.alloc ?_ (by first | omega | (simp <;> omega)) _ | refine Below.setCell ?_ (by first | omega | (simp <;> omega)) _ | refine Below.trans ?_ (Below.mono (by assumption) (by first | omega | (simp <;> omega))))
          have g4 : decide (of < 1) = false := by simpa using t4
          have t5 : 2147483651 < of := by omega
          have g5 : decide (2147483651 < of) = true := by simpa using t5
          clear hs2 t5
          go_wp2
          go_light
          refine bodyPost_ret (v := .int .i64 2) (by simp [results, Tryd.results27, go_sem, *]) rfl ⟨by rw [HBAD.out], ?_⟩
          repeat' (first | exact Below.refl _ _ | refine Below.drew ?_ | refine below_drewN ?_ _ | refine Below.alloc ?_ (by first | omega | (simp <;> omega)) _ | refine Below.setCell ?_ (by first | omega | (simp <;> omega)) _ | refine Below.trans ?_ (Below.mono (by assumption) (by first | omega | (simp <;> omega))))
      · obtain rfl : k = qs.length := by omega
        have HR := Lib.hid (schk_ok H6.out (by have := HS.out; rwa [List.take_length] at this))
        clear HS
        go_wp2
        go_light
        refine bodyPost_ret (v := .int .i64 0) (by simp [results, Tryd.results27, go_sem, *]) rfl ⟨by rw [HR.out], ?_⟩
        repeat' (first | exact Below.refl _ _ | refine Below.drew ?_ | refine below_drewN ?_ _ | refine Below.alloc ?_ (by first | omega | (simp <;> omega)) _ | refine Below.setCell ?_ (by first | omega | (simp <;> omega)) _ | refine Below.trans ?_ (Below.mono (by assumption) (by first | omega | (simp <;> omega))))

set_option maxRecDepth 100000 in
set_option maxHeartbeats 4000000 in
theorem rscheck_p (a : Option Addr) (qs : List (Int × Int × Int)) (cap : Nat) (w : World) (ha : RowQ w a qs) (hl : qs.length ≤ 9223372036854775807) :
    Calls Tryd.prog 28 #[.slice a qs.length cap] w fun e w' => e = .returned (.int .i64 (schk qs)) ∧ Below w.heap.size w w' := by
  by_cases h : 98303 < qs.length
  · have e0 : decide ((98303 : Int) < (qs.length : Int)) = true := by simp; omega
    have e1 : decide (98303 < qs.length) = true := by simpa using h
    rw [schk_full h]
    clear h
    go_enter Tryd.func28, Tryd.ntmps28
    go_wp2
    repeat' (first | (go_region <;> go_wp2))
    all_goals go_light
    all_goals (try simp only [beq_iff_eq, beq_eq_false_iff_ne, bne_iff_ne, bne_eq_false_iff_eq, ne_eq] at *)
    all_goals
      refine bodyPost_ret (v := .int .i64 6) (by simp [results, Tryd.results28, go_sem, *]) rfl ⟨rfl, ?_⟩
      repeat' (first | exact Below.refl _ _ | refine Below.drew ?_ | refine below_drewN ?_ _ | refine Below.alloc ?_ (by first | omega | (simp <;> omega)) _ | refine Below.setCell ?_ (by first | omega | (simp <;> omega)) _ | refine Below.trans ?_ (Below.mono (by assumption) (by first | omega | (simp <;> omega))))
  · have e0 : decide ((98303 : Int) < (qs.length : Int)) = false := by simp; omega
    have hl2 : (qs.length : Int) ≤ 98303 := by omega
    have H6 := Lib.hid h
    clear h
    go_enter Tryd.func28, Tryd.ntmps28
    go_wp2
    go_loopw [3] (fun i wr => ∃ (k : Nat), k ≤ qs.length ∧ i = .int .i64 k ∧ Hid ((qs.take k).all sok = true) ∧ Below w.heap.size w wr) (fun i _ => qs.length - (intOf i).toNat)
    case atStart => exact ⟨0, by omega, rfl, rfl, Below.refl _ _⟩
    case round =>
      obtain ⟨k, hk, rfl, HS, hb⟩ := hrel
      by_cases hlt : k < qs.length
      · obtain ⟨b1, o1, rfl, hb2, hc2⟩ := (ha.later hb).at hlt
        obtain ⟨c0, c1, c2⟩ := hc2 k hlt
        obtain ⟨⟨li, ma, of⟩, hx⟩ : ∃ q, qs.getD k (0, 0, 0) = q := ⟨_, rfl⟩
        rw [hx] at c0 c1 c2
        have HX := Lib.hid hx
        dsimp only at c0 c1 c2
        have i0 : (0 : Int) ≤ (k : Int) := by omega
        have i1 : (k : Int) < (qs.length : Int) := by omega
        have hbz := hb.size
        have n1 : ¬ b1 = wr.heap.size := by omega
        have n2 : ¬ wr.heap.size = b1 := by omega
        clear hc2 hx e0
        by_cases hs : sok (li, ma, of) = true
        · have HB := Lib.hid (sok_take hlt HX.out HS.out hs)
          unfold sok at hs
          simp only [Bool.and_eq_true, decide_eq_true_eq] at hs
          obtain ⟨⟨⟨⟨⟨s1, s2⟩, s3⟩, s4⟩, s5⟩, s6⟩ := hs
          have g0 : decide (li < 0) = false := by simp; omega
          have g1 : decide (131072 < li) = false := by simp; omega
          have g2 : decide (ma < 3) = false := by simp; omega
          have g3 : decide (131074 < ma) = false := by simp; omega
          have g4 : decide (of < 1) = false := by simp; omega
          have g5 : decide (2147483651 < of) = false := by simp; omega
          clear HS
          go_wp2
          go_roundw
          case rel =>
            refine ⟨k + 1, by omega, by go_num, HB, ?_⟩
            repeat' (first | exact Below.refl _ _ | refine Below.drew ?_ | refine below_drewN ?_ _ | refine Below.alloc ?_ (by first | omega | (simp <;> omega)) _ | refine Below.setCell ?_ (by first | omega | (simp <;> omega)) _ | refine Below.trans ?_ (Below.mono (by assumption) (by first | omega | (simp <;> omega))))
          case measure => go_light; simp [intOf] <;> omega
        · have hbad : schk qs = 2 := schk_bad H6.out hlt HX.out (by simpa using hs)
          have HBAD := Lib.hid hbad
          have hs2 : li < 0 ∨ 131072 < li ∨ ma < 3 ∨ 131074 < ma ∨ of < 1 ∨ 2147483651 < of := by
            by_cases hn : li < 0 ∨ 131072 < li ∨ ma < 3 ∨ 131074 < ma ∨ of < 1 ∨ 2147483651 < of
            · exact hn
            · exfalso
              apply hs
              unfold sok
              simp only [Bool.and_eq_true, decide_eq_true_eq]
              omega
          clear hs HS hbad HX H6
          by_cases t0 : li < 0
          · have g0 : decide (li < 0) = true := by simpa using t0
            clear hs2 t0
            go_wp2
            go_light
            refine bodyPost_ret (v := .int .i64 2) (by simp [results, Tryd.results28, go_sem, *]) rfl ⟨by rw [HBAD.out], ?_⟩
            repeat' (first | exact Below.refl _ _ | refine Below.drew ?_ | refine below_drewN ?_ _ | refine Below.alloc ?_ (by first | omega | (simp <;> omega)) _ | refine Below.setCell ?_ (by first | omega | (simp <;> omega)) _ | refine Below.trans ?_ (Below.mono (by assumption) (by first | omega | (simp <;> omega))))
          have g0 : decide (li < 0) = false := by simpa using t0
          by_cases t1 : 131072 < li
          · have g1 : decide (131072 < li) = true := by simpa using t1
            clear hs2 t1
            go_wp2
            go_light
            refine bodyPost_ret (v := .int .i64 2) (by simp [results, Tryd.results28, go_sem, *]) rfl ⟨by rw [HBAD.out], ?_⟩
            repeat' (first | exact Below.refl _ _ | refine Below.drew ?_ | refine below_drewN ?_ _ | refine Below.alloc ?_ (by first | omega | (simp <;> omega)) _ | refine Below.setCell ?_ (by first | omega | (simp <;> omega)) _ | refine Below.trans ?_ (Below.mono (by assumption) (by first | omega | (simp <;> omega))))
          have g1 : decide (131072 < li) = false := by simpa using t1
          by_cases t2 : ma < 3
          · have g2 : decide (ma < 3) = true := by simpa using t2
            clear hs2 t2
            go_wp2
            go_light
            refine bodyPost_ret (v := .int .i64 2) (by simp [results, Tryd.results28, go_sem, *]) rfl ⟨by rw [HBAD.out], ?_⟩
            repeat' (first | exact Below.refl _ _ | refine Below.drew ?_ | refine below_drewN ?_ _ | refine Below.alloc ?_ (by first | omega | (simp <;> omega)) _ | refine Below.setCell ?_ (by first | omega | (simp <;> omega)) _ | refine Below.trans ?_ (Below.mono (by assumption) (by first | omega | (simp <;> omega))))
          have g2 : decide (ma < 3) = false := by simpa using t2
          by_cases t3 : 131074 < ma
          · have g3 : decide (131074 < ma) = true := by simpa using t3
            clear hs2 t3
            go_wp2
            go_light
            refine bodyPost_ret (v := .int .i64 2) (by simp [results, Tryd.results28, go_sem, *]) rfl ⟨by rw [HBAD.out], ?_⟩
            repeat' (first | exact Below.refl _ _ | refine Below.drew ?_ | refine below_drewN ?_ _ | refine Below.alloc ?_ (by first | omega | (simp <;> omega)) _ | refine Below.setCell ?_ (by first | omega | (simp <;> omega)) _ | refine Below.trans ?_ (Below.mono (by assumption) (by first | omega | (simp <;> omega))))
          have g3 : decide (131074 < ma) = false := by simpa using t3
          by_cases t4 : of < 1
          · have g4 : decide (of < 1) = true := by simpa using t4
            clear hs2 t4
            go_wp2
            go_light
            refine bodyPost_ret (v := .int .i64 2) (by simp [results, Tryd.results28, go_sem, *]) rfl ⟨by rw [HBAD.out], ?_⟩
            repeat' (first | exact Below.refl _ _ | refine Below.drew ?_ | refine below_drewN ?_ _ | refine Below.alloc ?_ (by first | omega | (simp <;> omega)) _ | refine Below.setCell ?_ (by first | omega | (simp <;> omega)) _ | refine Below.trans ?_ (Below.mono (by assumption) (by first | omega | (simp <;> omega))))
          have g4 : decide (of < 1) = false := by simpa using t4
          have t5 : 2147483651 < of := by omega
          have g5 : decide (2147483651 < of) = true := by simpa using t5
          clear hs2 t5
          go_wp2
          go_light
          refine bodyPost_ret (v := .int .i64 2) (by simp [results, Tryd.results28, go_sem, *]) rfl ⟨by rw [HBAD.out], ?_⟩
          repeat' (first | exact Below.refl _ _ | refine Below.drew ?_ | refine below_drewN ?_ _ | refine Below.alloc ?_ (by first | omega | (simp <;> omega)) _ | refine Below.setCell ?_ (by first | omega | (simp <;> omega)) _ | refine Below.trans ?_ (Below.mono (by assumption) (by first | omega | (simp <;> omega))))
      · obtain rfl : k = qs.length := by omega
        have HR := Lib.hid (schk_ok H6.out (by have := HS.out; rwa [List.take_length] at this))
        clear HS
        go_wp2
        go_light
        refine bodyPost_ret (v := .int .i64 0) (by simp [results, Tryd.results28, go_sem, *]) rfl ⟨by rw [HR.out], ?_⟩
        repeat' (first | exact Below.refl _ _ | refine Below.drew ?_ | refine below_drewN ?_ _ | refine Below.alloc ?_ (by first | omega | (simp <;> omega)) _ | refine Below.setCell ?_ (by first | omega | (simp <;> omega)) _ | refine Below.trans ?_ (Below.mono (by assumption) (by first | omega | (simp <;> omega))))
end Go.Proofs.YtmblpmaelglnpaaDoor
