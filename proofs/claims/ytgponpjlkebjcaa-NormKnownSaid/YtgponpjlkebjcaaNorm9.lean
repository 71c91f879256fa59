/-
  NormKnown, walked.
-/
import Derived.Test.YtgponpjlkebjcaaRows
import Derived.Test.YtgponpjlkebjcaaNorm8
import Derived.Test.YtgponpjlkebjcaaCommon
import Derived.Deep.Light
import Derived.Shelf.Abstract
import Derived.Shelf.RegionOpen
import Derived.OwnWalkIn
import Derived.TacticsInMore
import Derived.LoopNIn
import Derived.LoopIn
import Derived.Outline
namespace Go.Proofs.Ytgponpjlkebjcaa
open Go.RowKit
set_option linter.unusedSimpArgs false
set_option linter.unusedVariables false
attribute [local go_sem] Oper.semAt_some

theorem accuracy_t (a : Option Addr) (xs : List Int) (n cap : Nat) (most want : Int) (w : World) (hn : n = xs.length) (ha : Row .i64 w a xs) (hl : n ≤ 9223372036854775807) (h : rLog xs most = (want, 0)) :
    Calls Try.prog 52 #[.slice a n cap, .int .i64 most, .int .i64 want] w fun e w' => e = .returned (.bool true) ∧ Below w.heap.size w w' := by
  subst hn
  have q1 := fun w h2 => log_p a xs cap most w h2 hl
  rw [h] at q1
  clear h
  go_enter Try.func52, Try.ntmps52
  go_wp2_with ((go_at_call 43; refine (q1 _ (ha.later (by repeat' (first | exact Below.refl _ _ | refine Below.drew ?_ | refine below_drewN ?_ _ | refine Below.alloc ?_ (by first | omega | (simp <;> omega)) _ | refine Below.setCell ?_ (by first | omega | (simp <;> omega)) _ | refine Below.trans ?_ (Below.mono (by assumption) (by first | omega | (simp <;> omega))))))).mono ?_; rintro e w1 ⟨rfl, hb⟩; have hsz := hb.size; (try simp at hsz)))
  repeat' (first | (go_region <;> go_wp2_with ((go_at_call 43; refine (q1 _ (ha.later (by repeat' (first | exact Below.refl _ _ | refine Below.drew ?_ | refine below_drewN ?_ _ | refine Below.alloc ?_ (by first | omega | (simp <;> omega)) _ | refine Below.setCell ?_ (by first | omega | (simp <;> omega)) _ | refine Below.trans ?_ (Below.mono (by assumption) (by first | omega | (simp <;> omega))))))).mono ?_; rintro e w1 ⟨rfl, hb⟩; have hsz := hb.size; (try simp at hsz)))))
  all_goals go_light
  all_goals (try simp only [beq_iff_eq, beq_eq_false_iff_ne, bne_iff_ne, bne_eq_false_iff_eq, ne_eq] at *)
  all_goals
    refine bodyPost_ret (v := .bool true) (by simp [results, Try.results52, go_sem, *]) rfl ⟨rfl, ?_⟩
    repeat' (first | exact Below.refl _ _ | refine Below.drew ?_ | refine below_drewN ?_ _ | refine Below.alloc ?_ (by first | omega | (simp <;> omega)) _ | refine Below.setCell ?_ (by first | omega | (simp <;> omega)) _ | refine Below.trans ?_ (Below.mono (by assumption) (by first | omega | (simp <;> omega))))
theorem ac1 (a : Option Addr) (cap : Nat) (w : World) (ha : Row .i64 w a [1, 1]) : Calls Try.prog 52 #[.slice a 2 cap, .int .i64 9, .int .i64 5] w fun e w' => e = .returned (.bool true) ∧ Below w.heap.size w w' :=
  accuracy_t a [1, 1] 2 cap 9 5 w rfl ha (by decide) (by decide +kernel)
theorem ac2 (a : Option Addr) (cap : Nat) (w : World) (ha : Row .i64 w a [100]) : Calls Try.prog 52 #[.slice a 1 cap, .int .i64 9, .int .i64 5] w fun e w' => e = .returned (.bool true) ∧ Below w.heap.size w w' :=
  accuracy_t a [100] 1 cap 9 5 w rfl ha (by decide) (by decide +kernel)
theorem ac3 (a : Option Addr) (cap : Nat) (w : World) (ha : Row .i64 w a [5000, 5000]) : Calls Try.prog 52 #[.slice a 2 cap, .int .i64 9, .int .i64 9] w fun e w' => e = .returned (.bool true) ∧ Below w.heap.size w w' :=
  accuracy_t a [5000, 5000] 2 cap 9 9 w rfl ha (by decide) (by decide +kernel)
theorem ac4 (a : Option Addr) (cap : Nat) (w : World) (ha : Row .i64 w a [5000, 5000]) : Calls Try.prog 52 #[.slice a 2 cap, .int .i64 6, .int .i64 6] w fun e w' => e = .returned (.bool true) ∧ Below w.heap.size w w' :=
  accuracy_t a [5000, 5000] 2 cap 6 6 w rfl ha (by decide) (by decide +kernel)
theorem dx1 (a : Option Addr) (cap : Nat) (w : World) (ha : Row .i64 w a [1000, 1, 1]) : Calls Try.prog 48 #[.slice a 3 cap, .int .i64 5] w fun e w' => ∃ pa ca, e = .returned (.tuple #[.agg #[.int .i64 5, .slice pa 3 ca], .int .i64 0]) ∧ Row .i64 w' pa [30, -1, -1] ∧ Below w.heap.size w w' :=
  with_x a [1000, 1, 1] 3 cap 5 w (by decide) ha (by decide) 5 [30, -1, -1] 3 0 (by decide +kernel) (by decide)
theorem dx2 (a : Option Addr) (cap : Nat) (w : World) (ha : Row .i64 w a (10 :: List.replicate 31 1)) : Calls Try.prog 48 #[.slice a 32 cap, .int .i64 5] w fun e w' => ∃ pa ca, e = .returned (.tuple #[.agg #[.int .i64 5, .slice pa 32 ca], .int .i64 0]) ∧ Row .i64 w' pa (1 :: List.replicate 31 (-1)) ∧ Below w.heap.size w w' :=
  with_x a (10 :: List.replicate 31 1) 32 cap 5 w (by decide) ha (by decide) 5 (1 :: List.replicate 31 (-1)) 32 0 (by decide +kernel) (by decide)
theorem dx3 (a : Option Addr) (cap : Nat) (w : World) (ha : Row .i64 w a [0, 0]) : Calls Try.prog 45 #[.slice a 2 cap, .int .i64 9] w fun e w' => ∃ pa ca, e = .returned (.tuple #[.agg #[.int .i64 0, .slice pa 0 ca], .int .i64 7]) ∧ Row .i64 w' pa [] ∧ Below w.heap.size w w' :=
  of_x a [0, 0] 2 cap 9 w (by decide) ha (by decide) 0 [] 0 7 (by decide +kernel) (by decide)
theorem dx4 (a : Option Addr) (cap : Nat) (w : World) (ha : Row .i64 w a [1]) : Calls Try.prog 45 #[.slice a 1 cap, .int .i64 4] w fun e w' => ∃ pa ca, e = .returned (.tuple #[.agg #[.int .i64 0, .slice pa 0 ca], .int .i64 31]) ∧ Row .i64 w' pa [] ∧ Below w.heap.size w w' :=
  of_x a [1] 1 cap 4 w (by decide) ha (by decide) 0 [] 0 31 (by decide +kernel) (by decide)
theorem dx5 (a : Option Addr) (cap : Nat) (w : World) (ha : Row .i64 w a [1]) : Calls Try.prog 45 #[.slice a 1 cap, .int .i64 13] w fun e w' => ∃ pa ca, e = .returned (.tuple #[.agg #[.int .i64 0, .slice pa 0 ca], .int .i64 31]) ∧ Row .i64 w' pa [] ∧ Below w.heap.size w w' :=
  of_x a [1] 1 cap 13 w (by decide) ha (by decide) 0 [] 0 31 (by decide +kernel) (by decide)
theorem dx6 (a : Option Addr) (cap : Nat) (w : World) (ha : Row .i64 w a [1]) : Calls Try.prog 48 #[.slice a 1 cap, .int .i64 4] w fun e w' => ∃ pa ca, e = .returned (.tuple #[.agg #[.int .i64 0, .slice pa 0 ca], .int .i64 31]) ∧ Row .i64 w' pa [] ∧ Below w.heap.size w w' :=
  with_x a [1] 1 cap 4 w (by decide) ha (by decide) 0 [] 0 31 (by decide +kernel) (by decide)
theorem sm1 (a : Option Addr) (cap : Nat) (w : World) (ha : Row .i64 w a [30, -1, -1]) : Calls Try.prog 53 #[.slice a 3 cap] w fun e w' => e = .returned (.tuple #[.int .i64 32, .int .i64 0]) ∧ Below w.heap.size w w' := by
  have e : rSum [30, -1, -1] = (32, 0) := by decide +kernel
  have := sum_s a [30, -1, -1] cap w ha (by decide)
  rw [e] at this
  exact this.mono fun _ _ ⟨h1, h2⟩ => ⟨h1, by rw [h2]; exact Below.refl _ _⟩
theorem sm2 (a : Option Addr) (cap : Nat) (w : World) (ha : Row .i64 w a [-2]) : Calls Try.prog 53 #[.slice a 1 cap] w fun e w' => e = .returned (.tuple #[.int .i64 0, .int .i64 2]) ∧ Below w.heap.size w w' := by
  have e : rSum [-2] = (0, 2) := by decide +kernel
  have := sum_s a [-2] cap w ha (by decide)
  rw [e] at this
  exact this.mono fun _ _ ⟨h1, h2⟩ => ⟨h1, by rw [h2]; exact Below.refl _ _⟩

theorem rep_set (k : Nat) (h : k < 32) : (List.replicate k (1 : Int) ++ List.replicate (32 - k) 0).set k 1 = List.replicate (k + 1) 1 ++ List.replicate (32 - (k + 1)) 0 := by
  rw [List.set_append]
  rw [if_neg (by simp), List.length_replicate, Nat.sub_self, show 32 - k = (32 - (k + 1)) + 1 by omega, List.replicate_succ, List.set_cons_zero, List.replicate_succ' (n := k)]
  simp
set_option maxRecDepth 100000 in
set_option maxHeartbeats 8000000 in
theorem normKnown_w (w : World) : Calls Try.prog 11 #[] w fun e w' => e = .returned (.bool true) ∧ Below w.heap.size w w' := by
  have hmk : ∀ W, (Instr.makeSlice 22 (.int .i64 32) (.int .i64 32)).run Try.prog W = _ := fun W => mk_ints 32 (by omega) W
  go_enter Try.func11, Try.ntmps11
  go_wp2_with (first | (go_at_call 52; (with_reducible refine (ac1 _ _ _ ?_).mono ?_); (exact (row_c2 (by simp <;> omega) (by simp [go_sem, *]) (by simp [go_sem, *]))); rintro e w1 ⟨rfl, hb⟩; have hsz := hb.size; (try simp at hsz)) | (go_at_call 52; (with_reducible refine (ac2 _ _ _ ?_).mono ?_); (exact (row_c1 (by simp <;> omega) (by simp [go_sem, *]))); rintro e w1 ⟨rfl, hb⟩; have hsz := hb.size; (try simp at hsz)) | (go_at_call 52; (with_reducible refine (ac3 _ _ _ ?_).mono ?_); (exact (row_c2 (by simp <;> omega) (by simp [go_sem, *]) (by simp [go_sem, *]))); rintro e w1 ⟨rfl, hb⟩; have hsz := hb.size; (try simp at hsz)) | (go_at_call 52; (with_reducible refine (ac4 _ _ _ ?_).mono ?_); (exact (row_c2 (by simp <;> omega) (by simp [go_sem, *]) (by simp [go_sem, *]))); rintro e w1 ⟨rfl, hb⟩; have hsz := hb.size; (try simp at hsz)) | (go_at_call 48; (with_reducible refine (dx1 _ _ _ ?_).mono ?_); (exact (row_c3 (by simp <;> omega) (by simp [go_sem, *]) (by simp [go_sem, *]) (by simp [go_sem, *]))); rintro e w1 ⟨pA, cA, rfl, hrA, hb⟩; have hsz := hb.size; (try simp at hsz)))
  obtain ⟨W5, hW5⟩ : ∃ W5, w1.alloc (.cells #[.int .i64 5, .slice pA 3 cA] 51) = W5 := ⟨_, rfl⟩
  have hb5 : Below w.heap.size w W5 := by
    rw [← hW5]
    repeat' (first | exact Below.refl _ _ | refine Below.drew ?_ | refine below_drewN ?_ _ | refine Below.alloc ?_ (by first | omega | (simp <;> omega)) _ | refine Below.setCell ?_ (by first | omega | (simp <;> omega)) _ | refine Below.trans ?_ (Below.mono (by assumption) (by first | omega | (simp <;> omega))))
  have c0 : W5.cell? ⟨w1.heap.size, 0, none⟩ = some (.int .i64 5) := by rw [← hW5]; simp [go_sem]
  have c1 : W5.cell? ⟨w1.heap.size, 1, none⟩ = some (.slice pA 3 cA) := by rw [← hW5]; simp [go_sem]
  have hr5 : Row .i64 W5 pA [30, -1, -1] := by rw [← hW5]; exact hrA.later ((Below.refl _ _).alloc (Nat.le_refl _) _)
  have hs5 : W5.heap.size = w1.heap.size + 1 := by rw [← hW5]; simp
  have ha5 : Arr (W5.alloc (.cells (madeCells #[.int .i64 0] 32) 3)) (w1.heap.size + 1) 3 (List.replicate 32 0) := by
    have := Arr.made W5 32
    rw [hs5] at this
    exact this
  have hbb : Below (w1.heap.size + 1) W5 (W5.alloc (.cells (madeCells #[.int .i64 0] 32) 3)) := (Below.refl _ _).alloc (by omega) _
  rw [hW5]
  obtain ⟨BX, hBX⟩ : ∃ BX, w1.heap.size = BX := ⟨_, rfl⟩
  rw [hBX] at c0 c1 hs5 ha5 hbb ⊢
  have hwx : w.heap.size ≤ BX := by have := hb5.size; omega
  have HS5 := Lib.hid hs5
  clear hW5 hBX hs5 hrA hmk
  go_loopw [4] (fun v wr => ∃ k : Nat, v = .int .i64 (k : Int) ∧ k ≤ 32 ∧ Arr wr (BX + 1) 3 (List.replicate k 1 ++ List.replicate (32 - k) 0) ∧ Below (BX + 1) W5 wr) (fun v _ => 32 - (intOf v).toNat)
  case atStart => exact ⟨0, rfl, by omega, ha5, hbb⟩
  case round =>
    clear ha5 hbb
    obtain ⟨k, rfl, hk, hA, hB⟩ := hrel
    by_cases hlt : k < 32
    · have g1 := hA.get (i := k) (by simp; omega)
      have g2 := Blk.frozen hA k
      have HA := Lib.hid hA
      have i0 : (0 : Int) ≤ (k : Int) := by omega
      have i1 : (k : Int) < 32 := by omega
      clear hA
      go_wp2
      go_roundw
      case rel =>
        refine ⟨k + 1, by go_num, by omega, ?_, hB.setCell (by simp) _⟩
        rw [← rep_set k hlt]
        exact Arr.set HA.out k 1
      case measure => go_light; simp [intOf] <;> omega
    · obtain rfl : k = 32 := by omega
      have hA2 : Arr wr (BX + 1) 3 (List.replicate 32 1) := hA
      have g1 := hA2.get (i := 0) (by simp)
      have g2 := Blk.frozen hA2 0
      have hrow2 : Row .i64 (wr.setCell ⟨BX + 1, 0, none⟩ (.int .i64 10)) (some ⟨BX + 1, 0, none⟩) (10 :: List.replicate 31 1) := Blk.row (Arr.set hA2 0 10)
      have hlt0 : BX < wr.heap.size := by have := hB.size; have := HS5.out; omega
      have d1 : wr.cell? ⟨BX, 1, none⟩ = some (.slice pA 3 cA) := (hB.cell (p := ⟨BX, 1, none⟩) (by simp)).trans c1
      have hr6 : Row .i64 wr pA [30, -1, -1] := hr5.later (by rw [HS5.out]; exact hB)
      have HR6 : Hid (∀ W, Below BX.succ wr W → Row .i64 W pA [30, -1, -1]) := Lib.hid (fun W hW => hr5.later (by rw [HS5.out]; exact hB.trans hW))
      have hbw : Below w.heap.size w wr := hb5.trans (hB.mono (by omega))
      have hwr := hbw.size
      have hne : ¬ BX + 1 = BX := by omega
      clear hA hA2 hr5 hr6 c0 c1 hb5
      go_wp2_with (first | (go_at_call 48; (with_reducible refine (dx2 _ _ _ ?_).mono ?_); (exact hrow2); rintro e w2 ⟨pB, cB, rfl, hrB, hb2⟩; (obtain ⟨bB, oB, rfl, hltB, hcB⟩ := hrB.at (i := 0) (by decide)); (have e0 : w2.cell? ⟨bB, oB, none⟩ = some (.int .i64 1) := hcB 0 (by decide)); (have e31 : w2.cell? ⟨bB, oB + 31, none⟩ = some (.int .i64 (-1)) := hcB 31 (by decide)); have hs2 := hb2.size; (try simp at hs2); (have d2 : w2.cell? ⟨BX, 1, none⟩ = some (.slice pA 3 cA) := (hb2.cell (p := ⟨BX, 1, none⟩) (by simp; omega)).trans (by simp [go_sem, *])); (have hrD : Row .i64 w2 pA [30, -1, -1] := HR6.out _ ((Below.refl _ wr).setCell (by simp) _ |>.trans (hb2.mono (by simp; omega)))); (have l2 : BX < w2.heap.size := (by omega)); (have n2 : ¬ BX = w2.heap.size := (by omega)); (have n3 : ¬ bB = w2.heap.size := (by omega)); clear hcB hrB) | (go_at_call 20; (with_reducible refine (kn_same _ _ [30, -1, -1] 3 _ _ _ ?_ ?_ ?_ ?_).mono ?_); (exact hrD.later (by repeat' (first | exact Below.refl _ _ | refine Below.drew ?_ | refine below_drewN ?_ _ | refine Below.alloc ?_ (by first | omega | (simp <;> omega)) _ | refine Below.setCell ?_ (by first | omega | (simp <;> omega)) _ | refine Below.trans ?_ (Below.mono (by assumption) (by first | omega | (simp <;> omega)))))); (exact (row_c3 (by simp <;> omega) (by simp [go_sem, *]) (by simp [go_sem, *]) (by simp [go_sem, *]))); (exact rfl); (decide); rintro e w3 ⟨rfl, hb3⟩; have hs3 := hb3.size; (try simp at hs3); (have x3 : w3.cell? ⟨w2.heap.size, 1, none⟩ = some (.slice (some ⟨bB, oB, none⟩) 32 cB) := (hb3.cell (p := ⟨w2.heap.size, 1, none⟩) (by simp; omega)).trans (by simp [go_sem])); (have e3 := (hb3.cell (p := ⟨bB, oB, none⟩) (by simp; omega)).trans (show _ = some (Value.int .i64 1) by simp [go_sem, e0, n3, hltB])); (have e33 := (hb3.cell (p := ⟨bB, oB + 31, none⟩) (by simp; omega)).trans (show _ = some (Value.int .i64 (-1)) by simp [go_sem, e31, n3, hltB]))) | (go_at_call 45; (with_reducible refine (dx3 _ _ _ ?_).mono ?_); (exact (row_c2 (by simp <;> omega) (by simp [go_sem, *]) (by simp [go_sem, *]))); rintro e w1 ⟨pQ, cQ, rfl, hrQ, hb⟩; have hsz := hb.size; (try simp at hsz)) | (go_at_call 45; (with_reducible refine (dx4 _ _ _ ?_).mono ?_); (exact (row_c1 (by simp <;> omega) (by simp [go_sem, *]))); rintro e w1 ⟨pQ, cQ, rfl, hrQ, hb⟩; have hsz := hb.size; (try simp at hsz)) | (go_at_call 45; (with_reducible refine (dx5 _ _ _ ?_).mono ?_); (exact (row_c1 (by simp <;> omega) (by simp [go_sem, *]))); rintro e w1 ⟨pQ, cQ, rfl, hrQ, hb⟩; have hsz := hb.size; (try simp at hsz)) | (go_at_call 48; (with_reducible refine (dx6 _ _ _ ?_).mono ?_); (exact (row_c1 (by simp <;> omega) (by simp [go_sem, *]))); rintro e w1 ⟨pQ, cQ, rfl, hrQ, hb⟩; have hsz := hb.size; (try simp at hsz)) | (go_at_call 53; (with_reducible refine (sm1 _ _ _ ?_).mono ?_); (exact (row_c3 (by simp <;> omega) (by simp [go_sem, *]) (by simp [go_sem, *]) (by simp [go_sem, *]))); rintro e w1 ⟨rfl, hb⟩; have hsz := hb.size; (try simp at hsz)) | (go_at_call 53; (with_reducible refine (sm2 _ _ _ ?_).mono ?_); (exact (row_c1 (by simp <;> omega) (by simp [go_sem, *]))); rintro e w1 ⟨rfl, hb⟩; have hsz := hb.size; (try simp at hsz)) | (go_at_call 42; refine (awake7 _).mono ?_; rintro e w1 ⟨rfl, hb⟩; have hsz := hb.size; (try simp at hsz)))
      go_light
      refine bodyPost_ret (v := .bool true) (by simp [results, Try.results11, go_sem]) rfl ⟨rfl, ?_⟩
      repeat' (first | exact hbw | refine Below.drew ?_ | refine below_drewN ?_ _ | refine Below.alloc ?_ (by first | omega | (simp <;> omega)) _ | refine Below.setCell ?_ (by first | omega | (simp <;> omega)) _ | refine Below.trans ?_ (Below.mono (by assumption) (by first | omega | (simp <;> omega))))
end Go.Proofs.Ytgponpjlkebjcaa
