/-
  The statements' helpers about sequences: the first history, light sequences, what sequences do, the example.
-/
import Derived.Test.YtmblpmaelglnpaaDoorRows
import Derived.Test.YtmblpmaelglnpaaDoorSeqPF
import Derived.Test.YtmblpmaelglnpaaDoorSeqSame
import Derived.Test.YtmblpmaelglnpaaDoorAppQ
import Derived.Test.YtmblpmaelglnpaaDoorGBase
import Derived.Deep.Light
import Derived.Shelf.Abstract
import Derived.Shelf.RegionOpen
import Derived.OwnWalkIn
import Derived.TacticsInMore
import Derived.LoopNIn
import Derived.LoopIn
import Derived.Maps.OwnIn
import Derived.Outline
import Derived.IntWalk
import Derived.WalkMore
namespace Go.Proofs.YtmblpmaelglnpaaDoor
open Go.RowKit
set_option linter.unusedSimpArgs false
set_option linter.unusedVariables false
open Go.Shelf
attribute [local go_sem] eq23 Oper.semAt_some

theorem first_s20 (w : World) : Calls Tryd.prog 20 #[] w fun e w' => e = .returned (.agg #[.int .i64 1, .int .i64 4, .int .i64 8]) ∧ Below w.heap.size w w' := by
  go_enter Tryd.func20, Tryd.ntmps20
  go_wp2
  repeat' (first | (go_region <;> go_wp2))
  all_goals go_light
  all_goals (try simp only [beq_iff_eq, beq_eq_false_iff_ne, bne_iff_ne, bne_eq_false_iff_eq, ne_eq] at *)
  all_goals
    refine bodyPost_ret (v := .agg #[.int .i64 1, .int .i64 4, .int .i64 8]) (by simp [results, Tryd.results20, go_sem, *]) rfl ⟨rfl, ?_⟩
    repeat' (first | with_reducible exact Below.refl _ _ | with_reducible refine Below.drew ?_ | with_reducible refine below_drewN ?_ _ | with_reducible refine Below.alloc ?_ (by first | omega | (simp <;> omega)) _ | with_reducible refine Below.setCell ?_ (by first | omega | (dsimp only; omega) | (simp <;> omega)) _ | with_reducible refine Below.trans ?_ (Below.mono (by assumption) (by first | omega | (simp <;> omega))))
theorem RowQ.vals {w : World} {a : Option Addr} {qs : List (Int × Int × Int)} (h : RowQ w a qs) : RowV w a (flat qs) := by
  rcases h with rfl | ⟨b, off, rfl, hb, hc⟩
  · exact .inl rfl
  · refine .inr ⟨_, rfl, fun j u hj => ?_⟩
    have hjl := (List.getElem?_eq_some_iff.1 hj).1
    rw [flat_len] at hjl
    obtain ⟨i, r, hr, rfl⟩ : ∃ i r, r < 3 ∧ j = i * 3 + r := ⟨j / 3, j % 3, by omega, by omega⟩
    have hi : i < qs.length := by omega
    obtain ⟨f1, f2, f3⟩ := flat_get qs i hi
    obtain ⟨h1, h2, h3⟩ := hc i hi
    simp only [Addr.add_lit]
    rcases (show r = 0 ∨ r = 1 ∨ r = 2 by omega) with rfl | rfl | rfl
    · rw [Nat.add_zero, f1] at hj
      rw [Nat.add_zero, h1, hj]
    · rw [f2] at hj
      rw [← Nat.add_assoc, h2, hj]
    · rw [f3] at hj
      rw [← Nat.add_assoc, h3, hj]
theorem flat_one (qs : List (Int × Int × Int)) : ∀ u ∈ flat qs, u.oneCell' = true := by
  intro u hu
  obtain ⟨q, _, hq⟩ := List.mem_flatMap.1 hu
  simp at hq
  rcases hq with rfl | rfl | rfl <;> rfl

def lsum (qs : List (Int × Int × Int)) : Nat → Int
  | 0 => 0
  | k + 1 => if 0 < (qs.getD k (0, 0, 0)).2.1 ∧ (qs.getD k (0, 0, 0)).2.1 ≤ 131074 then lsum qs k + (qs.getD k (0, 0, 0)).2.1 else lsum qs k
theorem lsum_bd (qs : List (Int × Int × Int)) : ∀ k, 0 ≤ lsum qs k ∧ lsum qs k ≤ 131074 * (k : Int) := by
  intro k
  induction k with
  | zero => simp [lsum]
  | succ k ih => unfold lsum; split <;> omega
/-- At most 40, and few bytes or too many. -/
def lightB (qs : List (Int × Int × Int)) : Bool := decide (qs.length ≤ 40) && (decide (lsum qs qs.length ≤ 3000) || decide (131072 < lsum qs qs.length))
set_option maxRecDepth 100000 in
set_option maxHeartbeats 4000000 in
theorem light_p (a : Option Addr) (qs : List (Int × Int × Int)) (cap : Nat) (w : World) (hq : RowQ w a qs) (hm : qs.length ≤ 9223372036854775807) :
    Calls Tryd.prog 15 #[.slice a qs.length cap] w fun e w' => e = .returned (.bool (lightB qs)) ∧ Below w.heap.size w w' := by
  by_cases h : 40 < qs.length
  · have e1 : decide ((40 : Int) < (qs.length : Int)) = true := by simp; omega
    go_enter Tryd.func15, Tryd.ntmps15
    have hL : lightB qs = false := by unfold lightB; rw [decide_eq_false (by omega)]; rfl
    rw [hL]
    go_wp2
    go_ret
    exact ⟨rfl, Below.refl _ _⟩
  · have e1 : decide ((40 : Int) < (qs.length : Int)) = false := by simp; omega
    go_enter Tryd.func15, Tryd.ntmps15
    go_wp2
    go_loopw [3, 4] (fun v3 v4 wr => ∃ (k : Nat) (n : Int), k ≤ qs.length ∧ v4 = .int .i64 (k : Int) ∧ v3 = .int .i64 n ∧ Hid (n = lsum qs k) ∧ Below w.heap.size w wr) (fun _ v _ => qs.length - (intOf v).toNat)
    case atStart => exact ⟨0, 0, by omega, rfl, rfl, Lib.hid rfl, Below.refl _ _⟩
    case round =>
      obtain ⟨k, n, hk, rfl, rfl, HN, hb⟩ := hrel
      obtain ⟨h0, h1⟩ := lsum_bd qs k
      rw [← HN.out] at h0 h1
      by_cases hlt : k < qs.length
      · obtain ⟨b1, o1, rfl, hb5, hc1⟩ := (hq.later hb).at hlt
        obtain ⟨c1, c2, c3⟩ := hc1 k hlt
        have hS : lsum qs (k + 1) = if 0 < (qs.getD k (0, 0, 0)).2.1 ∧ (qs.getD k (0, 0, 0)).2.1 ≤ 131074 then n + (qs.getD k (0, 0, 0)).2.1 else n := by rw [lsum, ← HN.out]
        generalize (qs.getD k (0, 0, 0)).2.1 = m at c2 hS
        have HS := Lib.hid hS
        clear hS
        have i0 : (0 : Int) ≤ (k : Int) := by omega
        have i1 : (k : Int) < (qs.length : Int) := by omega
        clear hc1 c1 c3
        by_cases g1 : 0 < m
        · by_cases g2 : m ≤ 131074
          · have d1 : decide (0 < m) = true := by simpa using g1
            have d2 : decide (m ≤ 131074) = true := by simpa using g2
            have a1 : IntKind.i64.wrap (n + m) = n + m := IntWalk.i64_in _ (by omega)
            go_wp2
            go_roundw
            case rel => exact ⟨k + 1, n + m, by omega, by go_num, rfl, Lib.hid (by rw [HS.out, if_pos ⟨g1, g2⟩]), hb⟩
            case measure => go_light; simp [intOf] <;> omega
          · have d1 : decide (0 < m) = true := by simpa using g1
            have d2 : decide (m ≤ 131074) = false := by simpa using g2
            go_wp2
            go_roundw
            case rel => exact ⟨k + 1, n, by omega, by go_num, rfl, Lib.hid (by rw [HS.out, if_neg (by omega)]), hb⟩
            case measure => go_light; simp [intOf] <;> omega
        · have d1 : decide (0 < m) = false := by simpa using g1
          go_wp2
          go_roundw
          case rel => exact ⟨k + 1, n, by omega, by go_num, rfl, Lib.hid (by rw [HS.out, if_neg (by omega)]), hb⟩
          case measure => go_light; simp [intOf] <;> omega
      · have i1 : ¬ (k : Int) < (qs.length : Int) := by omega
        obtain rfl : k = qs.length := by omega
        have hL : lightB qs = (decide (n ≤ 3000) || decide (131072 < n)) := by unfold lightB; rw [← HN.out, decide_eq_true (by omega : qs.length ≤ 40)]; rfl
        have HL := Lib.hid hL
        clear hL
        have g3 : (decide (n ≤ 3000) = true) ∨ (decide (n ≤ 3000) = false ∧ (decide (131072 < n) = true ∨ decide (131072 < n) = false)) := by
          by_cases h : n ≤ 3000
          · exact .inl (by simpa using h)
          · refine .inr ⟨by simpa using h, ?_⟩
            cases decide (131072 < n) <;> simp
        rcases g3 with d1 | ⟨d1, d2 | d2⟩
        all_goals
          go_wp2
          go_ret
          exact ⟨by rw [HL.out, d1]; first | rfl | (rw [d2]; rfl), hb⟩
set_option maxRecDepth 100000 in
set_option maxHeartbeats 4000000 in
theorem does_t (a : Option Addr) (qs : List (Int × Int × Int)) (cap : Nat) (lits before out : ByteArray) (x y z win : Int) (w : World) (hq : RowQ w a qs) (hm : qs.length ≤ 9223372036854775807) (hl : lits.size ≤ 9223372036854775807) (hbf : before.size ≤ 9223372036854775807) (hg : w.cell? ⟨0, 0, none⟩ = some (.iface 165 (.agg #[.pointer (some ⟨9, 74, none⟩)])))
    (h : Rexec qs lits before 1 4 8 win = (out, (x, y, z), 0)) :
    Calls Tryd.prog 36 #[.slice a qs.length cap, .string lits, .string before, .int .i64 win, .string out, .agg #[.int .i64 x, .int .i64 y, .int .i64 z]] w fun e w' => e = .returned (.bool true) ∧ Below w.heap.size w w' := by
  have hl0 : 0 < w.heap.size := World.block_lt_of_cell? w ⟨0, 0, none⟩ hg
  have qE := fun w hg h => pexec_p a qs cap lits before 1 4 8 win w h hm hl hbf hg
  rw [h] at qE
  dsimp only at qE
  clear h
  go_enter Tryd.func36, Tryd.ntmps36
  go_wp2_with (first | (go_at_call 20; refine (first_s20 _).mono ?_; rintro e w1 ⟨rfl, hb⟩; have hsz := hb.size; (try simp at hsz); (first | (have hbl := blater2 HA (by first | exact Nat.le_refl _ | (simp; done) | (simp; omega)) hb; obtain ⟨hcc, hff, HA, hne, hne'⟩ := hbl) | (obtain ⟨hcc, hff, HA, hne, hne'⟩ := blater1 hb)); (try simp only [World.size_alloc, World.size_setCell] at HA)) | (go_at_call 17; refine (qE _ (by refine ((show Below w.heap.size w _ by repeat' (first | with_reducible exact Below.refl _ _ | with_reducible refine Below.drew ?_ | with_reducible refine below_drewN ?_ _ | with_reducible refine Below.alloc ?_ (by first | omega | (simp <;> omega)) _ | with_reducible refine Below.setCell ?_ (by first | omega | (dsimp only; omega) | (simp <;> omega)) _ | with_reducible refine Below.trans ?_ (Below.mono (by assumption) (by first | omega | (simp <;> omega))))).cell (p := ⟨0, 0, none⟩) hl0).trans hg) (hq.later (by repeat' (first | with_reducible exact Below.refl _ _ | with_reducible refine Below.drew ?_ | with_reducible refine below_drewN ?_ _ | with_reducible refine Below.alloc ?_ (by first | omega | (simp <;> omega)) _ | with_reducible refine Below.setCell ?_ (by first | omega | (dsimp only; omega) | (simp <;> omega)) _ | with_reducible refine Below.trans ?_ (Below.mono (by assumption) (by first | omega | (simp <;> omega))))))).mono ?_; rintro en w2 ⟨rfl, hb2⟩; have hsz := hb2.size; (try simp at hsz); (first | (have hbl := blater2 HA (by first | exact Nat.le_refl _ | (simp; done) | (simp; omega)) hb2; obtain ⟨hcc, hff, HA, hne, hne'⟩ := hbl) | (obtain ⟨hcc, hff, HA, hne, hne'⟩ := blater1 hb2)); (try simp only [World.size_alloc, World.size_setCell] at HA)))
  repeat' (first | (go_region <;> go_wp2_with (first | (go_at_call 20; refine (first_s20 _).mono ?_; rintro e w1 ⟨rfl, hb⟩; have hsz := hb.size; (try simp at hsz); (first | (have hbl := blater2 HA (by first | exact Nat.le_refl _ | (simp; done) | (simp; omega)) hb; obtain ⟨hcc, hff, HA, hne, hne'⟩ := hbl) | (obtain ⟨hcc, hff, HA, hne, hne'⟩ := blater1 hb)); (try simp only [World.size_alloc, World.size_setCell] at HA)) | (go_at_call 17; refine (qE _ (by refine ((show Below w.heap.size w _ by repeat' (first | with_reducible exact Below.refl _ _ | with_reducible refine Below.drew ?_ | with_reducible refine below_drewN ?_ _ | with_reducible refine Below.alloc ?_ (by first | omega | (simp <;> omega)) _ | with_reducible refine Below.setCell ?_ (by first | omega | (dsimp only; omega) | (simp <;> omega)) _ | with_reducible refine Below.trans ?_ (Below.mono (by assumption) (by first | omega | (simp <;> omega))))).cell (p := ⟨0, 0, none⟩) hl0).trans hg) (hq.later (by repeat' (first | with_reducible exact Below.refl _ _ | with_reducible refine Below.drew ?_ | with_reducible refine below_drewN ?_ _ | with_reducible refine Below.alloc ?_ (by first | omega | (simp <;> omega)) _ | with_reducible refine Below.setCell ?_ (by first | omega | (dsimp only; omega) | (simp <;> omega)) _ | with_reducible refine Below.trans ?_ (Below.mono (by assumption) (by first | omega | (simp <;> omega))))))).mono ?_; rintro en w2 ⟨rfl, hb2⟩; have hsz := hb2.size; (try simp at hsz); (first | (have hbl := blater2 HA (by first | exact Nat.le_refl _ | (simp; done) | (simp; omega)) hb2; obtain ⟨hcc, hff, HA, hne, hne'⟩ := hbl) | (obtain ⟨hcc, hff, HA, hne, hne'⟩ := blater1 hb2)); (try simp only [World.size_alloc, World.size_setCell] at HA)))))
  all_goals go_light
  all_goals (try simp only [beq_iff_eq, beq_eq_false_iff_ne, bne_iff_ne, bne_eq_false_iff_eq, ne_eq] at *)
  all_goals
    refine bodyPost_ret (v := .bool true) (by simp [results, Tryd.results36, go_sem, *]) rfl ⟨rfl, ?_⟩
    repeat' (first | with_reducible exact Below.refl _ _ | with_reducible refine Below.drew ?_ | with_reducible refine below_drewN ?_ _ | with_reducible refine Below.alloc ?_ (by first | omega | (simp <;> omega)) _ | with_reducible refine Below.setCell ?_ (by first | omega | (dsimp only; omega) | (simp <;> omega)) _ | with_reducible refine Below.trans ?_ (Below.mono (by assumption) (by first | omega | (simp <;> omega))))

theorem awake20_eval : Rexec [(2, 5, 5)] { data := #[97, 98, 99] } { data := #[] } 1 4 8 9 = ({ data := #[97, 98, 97, 98, 97, 98, 97, 99] }, (2, 1, 4), 0) := by decide +kernel
theorem rowQ_one (w : World) (x y z : Int) (t : TypeId) : RowQ (w.alloc (.cells #[.int .i64 x, .int .i64 y, .int .i64 z] t)) (some ⟨w.heap.size, 0, none⟩) [(x, y, z)] := by
  refine .inr ⟨w.heap.size, 0, rfl, by simp, fun i hi => ?_⟩
  obtain rfl : i = 0 := by simpa using hi
  exact ⟨by simp [go_sem], by simp [go_sem], by simp [go_sem]⟩
theorem awake_p20 (w : World) (hg : w.cell? ⟨0, 0, none⟩ = some (.iface 165 (.agg #[.pointer (some ⟨9, 74, none⟩)]))) : Calls Tryd.prog 16 #[] w fun e w' => e = .returned (.bool true) ∧ Below w.heap.size w w' := by
  have hl0 : 0 < w.heap.size := World.block_lt_of_cell? w ⟨0, 0, none⟩ hg
  have qG := fun (w : World) (a : Option Addr) (h : RowQ w a [(2, 5, 5)]) hg => does_t a [(2, 5, 5)] 1 { data := #[97, 98, 99] } { data := #[] } { data := #[97, 98, 97, 98, 97, 98, 97, 99] } 2 1 4 9 w h (by decide) (by decide) (by decide) hg awake20_eval
  go_enter Tryd.func16, Tryd.ntmps16
  go_wp2_with ((go_at_call 36; go_loud (refine (qG _ _ (rowQ_one _ _ _ _ _) (by refine ((show Below w.heap.size w _ by repeat' (first | with_reducible exact Below.refl _ _ | with_reducible refine Below.drew ?_ | with_reducible refine below_drewN ?_ _ | with_reducible refine Below.alloc ?_ (by first | omega | (simp <;> omega)) _ | with_reducible refine Below.setCell ?_ (by first | omega | (dsimp only; omega) | (simp <;> omega)) _ | with_reducible refine Below.trans ?_ (Below.mono (by assumption) (by first | omega | (simp <;> omega))))).cell (p := ⟨0, 0, none⟩) hl0).trans hg)).mono ?_; rintro en w1 ⟨rfl, hb⟩; have hsz := hb.size; (try simp at hsz))))
  repeat' (first | (go_region <;> go_wp2_with ((go_at_call 36; go_loud (refine (qG _ _ (rowQ_one _ _ _ _ _) (by refine ((show Below w.heap.size w _ by repeat' (first | with_reducible exact Below.refl _ _ | with_reducible refine Below.drew ?_ | with_reducible refine below_drewN ?_ _ | with_reducible refine Below.alloc ?_ (by first | omega | (simp <;> omega)) _ | with_reducible refine Below.setCell ?_ (by first | omega | (dsimp only; omega) | (simp <;> omega)) _ | with_reducible refine Below.trans ?_ (Below.mono (by assumption) (by first | omega | (simp <;> omega))))).cell (p := ⟨0, 0, none⟩) hl0).trans hg)).mono ?_; rintro en w1 ⟨rfl, hb⟩; have hsz := hb.size; (try simp at hsz))))))
  all_goals go_light
  all_goals (try simp only [beq_iff_eq, beq_eq_false_iff_ne, bne_iff_ne, bne_eq_false_iff_eq, ne_eq] at *)
  all_goals
    refine bodyPost_ret (v := .bool true) (by simp [results, Tryd.results16, go_sem, *]) rfl ⟨rfl, ?_⟩
    repeat' (first | with_reducible exact Below.refl _ _ | with_reducible refine Below.drew ?_ | with_reducible refine below_drewN ?_ _ | with_reducible refine Below.alloc ?_ (by first | omega | (simp <;> omega)) _ | with_reducible refine Below.setCell ?_ (by first | omega | (dsimp only; omega) | (simp <;> omega)) _ | with_reducible refine Below.trans ?_ (Below.mono (by assumption) (by first | omega | (simp <;> omega))))

set_option maxRecDepth 100000 in
set_option maxHeartbeats 8000000 in
theorem seqExecutes_t (pq : Option Addr) (qs : List (Int × Int × Int)) (cq : Nat) (lits before : ByteArray) (a b c win : Int) (w : World) (hq : RowQ w pq qs) (hm : qs.length ≤ 9223372036854775807) (hl : lits.size ≤ 9223372036854775807) (hbf : before.size ≤ 9223372036854775807) (hg : w.cell? ⟨0, 0, none⟩ = some (.iface 165 (.agg #[.pointer (some ⟨9, 74, none⟩)]))) :
    Calls Tryd.prog 3 #[.slice pq qs.length cq, .string lits, .string before, .agg #[.int .i64 a, .int .i64 b, .int .i64 c], .int .i64 win] w fun e w' => e = .returned (.bool true) ∧ Below w.heap.size w w' := by
  have hl0 : 0 < w.heap.size := World.block_lt_of_cell? w ⟨0, 0, none⟩ hg
  have qL := fun w h => light_p pq qs cq w h hm
  by_cases hv : lightB qs = true ∧ ¬ 500 < lits.size ∧ ¬ 500 < before.size
  · obtain ⟨hv1, h2, h3⟩ := hv
    have hq40 : qs.length ≤ 40 := by unfold lightB at hv1; simp at hv1; exact hv1.1
    rw [hv1] at qL
    have e2 : decide ((500 : Int) < (lits.size : Int)) = false := by simp; omega
    have e3 : decide ((500 : Int) < (before.size : Int)) = false := by simp; omega
    obtain ⟨i0, hi, hz0, hz1, hz2⟩ := info_parts infoSeq
    have qP := fun w pa ca h hg => pexec_p pa qs ca lits before a b c win w h hm hl hbf hg
    have qR := fun w h => rexec_p pq qs cq lits before a b c win w h hm hl hbf
    have qS := fun (pa pb : Option Addr) (ca cb : Nat) (w : World) (h1 : RowQ w pa qs) (h2 : RowQ w pb qs) => rsame_p pa pb qs qs ca cb w h1 h2 hm
    rw [decide_eq_true (rfl : qs = qs)] at qS
    generalize Rexec qs lits before a b c win = R at qP qR
    obtain ⟨out, ⟨x, y, z⟩, er⟩ := R
    dsimp only at qP qR
    go_enter Tryd.func3, Tryd.ntmps3
    go_wp2_with (first | (go_at_call 16; refine (awake_p20 _ (by refine ((show Below w.heap.size w _ by repeat' (first | with_reducible exact Below.refl _ _ | with_reducible refine Below.drew ?_ | with_reducible refine below_drewN ?_ _ | with_reducible refine Below.alloc ?_ (by first | omega | (simp <;> omega)) _ | with_reducible refine Below.setCell ?_ (by first | omega | (dsimp only; omega) | (simp <;> omega)) _ | with_reducible refine Below.trans ?_ (Below.mono (by assumption) (by first | omega | (simp <;> omega))))).cell (p := ⟨0, 0, none⟩) hl0).trans hg)).mono ?_; rintro en wa ⟨rfl, hba⟩; have hsz := hba.size; (try simp at hsz); (first | (have hbl := blater2 HA (by first | exact Nat.le_refl _ | (simp; done) | (simp; omega)) hba; obtain ⟨hcc, hff, HA, hne, hne'⟩ := hbl) | (obtain ⟨hcc, hff, HA, hne, hne'⟩ := blater1 hba)); (try simp only [World.size_alloc, World.size_setCell] at HA)) | (go_at_call 15; refine (qL _ (hq.later (by repeat' (first | with_reducible exact Below.refl _ _ | with_reducible refine Below.drew ?_ | with_reducible refine below_drewN ?_ _ | with_reducible refine Below.alloc ?_ (by first | omega | (simp <;> omega)) _ | with_reducible refine Below.setCell ?_ (by first | omega | (dsimp only; omega) | (simp <;> omega)) _ | with_reducible refine Below.trans ?_ (Below.mono (by assumption) (by first | omega | (simp <;> omega))))))).mono ?_; rintro en wl ⟨rfl, hbl⟩; have hsz := hbl.size; (try simp at hsz); (first | (have hbl := blater2 HA (by first | exact Nat.le_refl _ | (simp; done) | (simp; omega)) hbl; obtain ⟨hcc, hff, HA, hne, hne'⟩ := hbl) | (obtain ⟨hcc, hff, HA, hne, hne'⟩ := blater1 hbl)); (try simp only [World.size_alloc, World.size_setCell] at HA)) | (at_builtin; refine wpList_append_anyQ _ (by first | rfl | (simp [Region.wanted, yielded]; done)) _ _ 22 rfl wl.heap.size 35 i0 _ 3 24 Tryd.underlying22 hi hz0 hz1 hz2 rfl (by decide) (.slice (some ⟨wl.heap.size, 0, none⟩) 0 0) 0 [] rfl (ownsRow_madeQ wl 35 3) pq qs.length cq (flat qs) rfl (flat_len qs) ((hq.later (by repeat' (first | with_reducible exact Below.refl _ _ | with_reducible refine Below.drew ?_ | with_reducible refine below_drewN ?_ _ | with_reducible refine Below.alloc ?_ (by first | omega | (simp <;> omega)) _ | with_reducible refine Below.setCell ?_ (by first | omega | (dsimp only; omega) | (simp <;> omega)) _ | with_reducible refine Below.trans ?_ (Below.mono (by assumption) (by first | omega | (simp <;> omega)))))).vals) (flat_one _) (by unfold maxLen; omega) (by omega) (by simp) (by simp) ?_; intro v1 w1 hown1 hgrow1 hv1; (obtain ⟨pa, ca, rfl⟩ : ∃ pa ca, v1 = .slice pa qs.length ca := by (rw [Nat.zero_add] at hown1; rcases hown1.2 with ⟨h1, h2⟩ | ⟨g, cap, cur, rfl, _⟩; exact absurd h1 hv1; exact ⟨_, _, rfl⟩)); (have B1 : Below w.heap.size w w1 := (show Below w.heap.size w _ by repeat' (first | with_reducible exact Below.refl _ _ | with_reducible refine Below.drew ?_ | with_reducible refine below_drewN ?_ _ | with_reducible refine Below.alloc ?_ (by first | omega | (simp <;> omega)) _ | with_reducible refine Below.setCell ?_ (by first | omega | (dsimp only; omega) | (simp <;> omega)) _ | with_reducible refine Below.trans ?_ (Below.mono (by assumption) (by first | omega | (simp <;> omega))))).grown hgrow1 (by simp; omega) (fun k hk => by simp [Value.ownBlock] at hk; omega)); (have hr1 : RowQ w1 pa qs := by (rw [List.nil_append, Nat.zero_add] at hown1; exact RowQ.of_own hown1 rfl)); (have BX : Below wl.heap.size wl w1 := ((Below.refl _ wl).alloc (Nat.le_refl _) _).grown hgrow1 (by simp) (fun k hk => by simp [Value.ownBlock] at hk; omega)); have hsX := BX.size; have k0 : w1.cell? ⟨w.heap.size, 0, none⟩ = some (.int .i64 a) := (BX.cell (p := ⟨w.heap.size, 0, none⟩) (by dsimp only; omega)).trans (by simp [go_sem, *]); have k1 : w1.cell? ⟨w.heap.size, 1, none⟩ = some (.int .i64 b) := (BX.cell (p := ⟨w.heap.size, 1, none⟩) (by dsimp only; omega)).trans (by simp [go_sem, *]); have k2 : w1.cell? ⟨w.heap.size, 2, none⟩ = some (.int .i64 c) := (BX.cell (p := ⟨w.heap.size, 2, none⟩) (by dsimp only; omega)).trans (by simp [go_sem, *]); clear hcc hff HA hne hne') | (go_at_call 17; refine (qP _ pa ca (hr1.later (by repeat' (first | with_reducible exact Below.refl _ _ | with_reducible refine Below.drew ?_ | with_reducible refine below_drewN ?_ _ | with_reducible refine Below.alloc ?_ (by first | omega | (simp <;> omega)) _ | with_reducible refine Below.setCell ?_ (by first | omega | (dsimp only; omega) | (simp <;> omega)) _ | with_reducible refine Below.trans ?_ (Below.mono (by assumption) (by first | omega | (simp <;> omega)))))) (by refine ((show Below w.heap.size w _ by repeat' (first | with_reducible exact Below.refl _ _ | with_reducible refine Below.drew ?_ | with_reducible refine below_drewN ?_ _ | with_reducible refine Below.alloc ?_ (by first | omega | (simp <;> omega)) _ | with_reducible refine Below.setCell ?_ (by first | omega | (dsimp only; omega) | (simp <;> omega)) _ | with_reducible refine Below.trans ?_ (Below.mono (by assumption) (by first | omega | (simp <;> omega))))).cell (p := ⟨0, 0, none⟩) hl0).trans hg)).mono ?_; rintro en w2 ⟨rfl, hb2⟩; have hs2 := hb2.size; have hr2 := hr1.later hb2; have B2 : Below w.heap.size w w2 := B1.trans (hb2.mono (by omega)); have m0 : w2.cell? ⟨w.heap.size, 0, none⟩ = some (.int .i64 a) := (hb2.cell (p := ⟨w.heap.size, 0, none⟩) (by dsimp only; omega)).trans k0; have m1 : w2.cell? ⟨w.heap.size, 1, none⟩ = some (.int .i64 b) := (hb2.cell (p := ⟨w.heap.size, 1, none⟩) (by dsimp only; omega)).trans k1; have m2 : w2.cell? ⟨w.heap.size, 2, none⟩ = some (.int .i64 c) := (hb2.cell (p := ⟨w.heap.size, 2, none⟩) (by dsimp only; omega)).trans k2; have eW : w.heap.size < w2.heap.size := (by omega); have eW2 : ¬ w.heap.size = w2.heap.size := (by omega)) | (go_at_call 18; refine (qR _ (hq.later (by repeat' (first | with_reducible exact Below.refl _ _ | with_reducible refine Below.drew ?_ | with_reducible refine below_drewN ?_ _ | with_reducible refine Below.alloc ?_ (by first | omega | (simp <;> omega)) _ | with_reducible refine Below.setCell ?_ (by first | omega | (dsimp only; omega) | (simp <;> omega)) _ | with_reducible refine Below.trans ?_ (Below.mono (by assumption) (by first | omega | (simp <;> omega))))))).mono ?_; rintro en w3 ⟨rfl, hb3⟩; have hs3 := hb3.size; (simp at hs3); have n0 : w3.cell? ⟨w2.heap.size, 0, none⟩ = some (.int .i64 x) := (hb3.cell (p := ⟨w2.heap.size, 0, none⟩) (by simp)).trans (by simp [go_sem]); have n1 : w3.cell? ⟨w2.heap.size, 1, none⟩ = some (.int .i64 y) := (hb3.cell (p := ⟨w2.heap.size, 1, none⟩) (by simp)).trans (by simp [go_sem]); have n2 : w3.cell? ⟨w2.heap.size, 2, none⟩ = some (.int .i64 z) := (hb3.cell (p := ⟨w2.heap.size, 2, none⟩) (by simp)).trans (by simp [go_sem]); have eV : w2.heap.size < w3.heap.size := (by omega); have eV2 : ¬ w2.heap.size = w3.heap.size := (by omega)) | (go_at_call 19; refine (qS _ _ _ _ _ (hr2.later (by repeat' (first | with_reducible exact Below.refl _ _ | with_reducible refine Below.drew ?_ | with_reducible refine below_drewN ?_ _ | with_reducible refine Below.alloc ?_ (by first | omega | (simp <;> omega)) _ | with_reducible refine Below.setCell ?_ (by first | omega | (dsimp only; omega) | (simp <;> omega)) _ | with_reducible refine Below.trans ?_ (Below.mono (by assumption) (by first | omega | (simp <;> omega)))))) (hq.later (by repeat' (first | with_reducible exact Below.refl _ _ | with_reducible refine Below.drew ?_ | with_reducible refine below_drewN ?_ _ | with_reducible refine Below.alloc ?_ (by first | omega | (simp <;> omega)) _ | with_reducible refine Below.setCell ?_ (by first | omega | (dsimp only; omega) | (simp <;> omega)) _ | with_reducible refine Below.trans ?_ (Below.mono (by assumption) (by first | omega | (simp <;> omega))))))).mono ?_; rintro en w4 ⟨rfl, hb4⟩; have hs4 := hb4.size; (simp at hs4)))
    go_light
    refine bodyPost_ret (v := .bool true) (by simp [results, Tryd.results3, go_sem, *]) rfl ⟨rfl, ?_⟩
    repeat' (first | with_reducible exact Below.refl _ _ | with_reducible refine Below.drew ?_ | with_reducible refine below_drewN ?_ _ | with_reducible refine Below.alloc ?_ (by first | omega | (simp <;> omega)) _ | with_reducible refine Below.setCell ?_ (by first | omega | (dsimp only; omega) | (simp <;> omega)) _ | with_reducible refine Below.trans ?_ (Below.mono (by assumption) (by first | omega | (simp <;> omega))))
  · have hv3 : (lightB qs = false) ∨ (lightB qs = true ∧ decide ((500 : Int) < (lits.size : Int)) = true) ∨ (lightB qs = true ∧ decide ((500 : Int) < (lits.size : Int)) = false ∧ decide ((500 : Int) < (before.size : Int)) = true) := by
      cases hb : lightB qs with
      | false => exact .inl rfl
      | true =>
        by_cases h1 : 500 < lits.size
        · exact .inr (.inl ⟨rfl, by simp; omega⟩)
        · refine .inr (.inr ⟨rfl, by simp; omega, ?_⟩)
          have : 500 < before.size := Classical.byContradiction fun h => hv ⟨hb, h1, h⟩
          simp; omega
    clear hv
    rcases hv3 with e0 | ⟨e0, e1⟩ | ⟨e0, e1, e2⟩
    all_goals
      rw [e0] at qL
      go_enter Tryd.func3, Tryd.ntmps3
      go_wp2_with (first | (go_at_call 16; refine (awake_p20 _ (by refine ((show Below w.heap.size w _ by repeat' (first | with_reducible exact Below.refl _ _ | with_reducible refine Below.drew ?_ | with_reducible refine below_drewN ?_ _ | with_reducible refine Below.alloc ?_ (by first | omega | (simp <;> omega)) _ | with_reducible refine Below.setCell ?_ (by first | omega | (dsimp only; omega) | (simp <;> omega)) _ | with_reducible refine Below.trans ?_ (Below.mono (by assumption) (by first | omega | (simp <;> omega))))).cell (p := ⟨0, 0, none⟩) hl0).trans hg)).mono ?_; rintro en wa ⟨rfl, hba⟩; have hsz := hba.size; (try simp at hsz); (first | (have hbl := blater2 HA (by first | exact Nat.le_refl _ | (simp; done) | (simp; omega)) hba; obtain ⟨hcc, hff, HA, hne, hne'⟩ := hbl) | (obtain ⟨hcc, hff, HA, hne, hne'⟩ := blater1 hba)); (try simp only [World.size_alloc, World.size_setCell] at HA)) | (go_at_call 15; refine (qL _ (hq.later (by repeat' (first | with_reducible exact Below.refl _ _ | with_reducible refine Below.drew ?_ | with_reducible refine below_drewN ?_ _ | with_reducible refine Below.alloc ?_ (by first | omega | (simp <;> omega)) _ | with_reducible refine Below.setCell ?_ (by first | omega | (dsimp only; omega) | (simp <;> omega)) _ | with_reducible refine Below.trans ?_ (Below.mono (by assumption) (by first | omega | (simp <;> omega))))))).mono ?_; rintro en wl ⟨rfl, hbl⟩; have hsz := hbl.size; (try simp at hsz); (first | (have hbl := blater2 HA (by first | exact Nat.le_refl _ | (simp; done) | (simp; omega)) hbl; obtain ⟨hcc, hff, HA, hne, hne'⟩ := hbl) | (obtain ⟨hcc, hff, HA, hne, hne'⟩ := blater1 hbl)); (try simp only [World.size_alloc, World.size_setCell] at HA)))
      go_light
      refine bodyPost_ret (v := .bool true) (by simp [results, Tryd.results3, go_sem, *]) rfl ⟨rfl, ?_⟩
      repeat' (first | with_reducible exact Below.refl _ _ | with_reducible refine Below.drew ?_ | with_reducible refine below_drewN ?_ _ | with_reducible refine Below.alloc ?_ (by first | omega | (simp <;> omega)) _ | with_reducible refine Below.setCell ?_ (by first | omega | (dsimp only; omega) | (simp <;> omega)) _ | with_reducible refine Below.trans ?_ (Below.mono (by assumption) (by first | omega | (simp <;> omega))))
end Go.Proofs.YtmblpmaelglnpaaDoor
