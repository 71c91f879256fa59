/-
  Strings made of numbers, walked.
-/
import Derived.Test.YtmblpmaelglnpaaDoorRows
import Derived.Test.YtmblpmaelglnpaaDoorGBase
import Derived.Deep.Light
import Derived.Shelf.Abstract
import Derived.Shelf.RegionOpen
import Derived.OwnWalkIn
import Derived.TacticsInMore
import Derived.LoopNIn
import Derived.LoopIn
import Derived.Maps.OwnIn
import Derived.Outline
import Derived.Deep.AppendLies
namespace Go.Proofs.YtmblpmaelglnpaaDoor
open Go.RowKit
set_option linter.unusedSimpArgs false
set_option linter.unusedVariables false
attribute [local go_sem] Oper.semAt_some

/-- What hands back a string of which P is known. -/
def StrPost (P : ByteArray → Prop) (w : World) (e : Ending) (w' : World) : Prop := ∃ t, e = .returned (.string t) ∧ P t ∧ Below w.heap.size w w'
/-- A string of so many bytes. -/
def SizeIs (N : Nat) (t : ByteArray) : Prop := t.size = N
theorem infoU8k : (Tryd.prog.info? 5).map (fun i => (i.zero, i.size, i.bytes)) = some (some (.int .u8 0), 1, 1) := by kernel_rfl
/-- make([]byte, 0, c). -/
theorem mk_bytes0 (c : Nat) (hn : c ≤ 17592186044416) (w : World) : (Instr.makeSlice 36 (.int .i64 0) (.int .i64 (c : Int))).run Tryd.prog w =
    .ok (.slice (some ⟨w.heap.size, 0, none⟩) 0 c) (w.alloc (.cells (madeCells #[.int .u8 0] c) 5)) := by
  obtain ⟨i, hi, hz0, hz1, hz2⟩ := info_parts infoU8k
  have := run_make (P := Tryd.prog) w 36 5 i (.int .u8 0) Tryd.underlying36 hi hz0 .i64 .i64 0 c (by omega) (by omega) (by rw [hz2]; omega) (by omega)
  rw [this, hz1]
  simp [Value.cells]
theorem own_mk0 (c : Nat) (hn : c ≤ 4096) (w : World) : (w.alloc (.cells (madeCells #[.int .u8 0] c) 5)).ownsRow w.heap.size 5 1 (.slice (some ⟨w.heap.size, 0, none⟩) 0 c) 0 [] :=
  ⟨by simp, .inr ⟨_, c, _, rfl, Nat.le_refl _, heap_alloc_new _ _, Nat.zero_le _, by unfold maxLen; omega, by simp [size_madeCells], by simp⟩⟩
theorem own_ints {w : World} {base : Nat} {g n cap : Nat} {xs : List Int} (h : w.ownsRow base 5 1 (.slice (some ⟨g, 0, none⟩) n cap) n (xs.map (Value.int .u8))) : xs.length = n ∧ ∀ i, i < n → w.cell? ⟨g, 0 + i, none⟩ = some (.int .u8 (xs.getD i 0)) := by
  obtain ⟨hl, h⟩ := h
  simp at hl
  rcases h with ⟨h1, _⟩ | ⟨g', cap', cur, h1, _, hh, _, _, _, ht⟩
  · cases h1
  · cases h1
    refine ⟨hl, fun i hi => ?_⟩
    have e1 : w.cell? ⟨g, 0 + i, none⟩ = cur[i]? := by simp [World.cell?, hh]
    have e2 : (cur.toList.take (n * 1))[i]? = cur.toList[i]? := by rw [List.getElem?_take]; rw [if_pos (by omega)]
    rw [e1, ← Array.getElem?_toList, ← e2, ht]
    simp [hl, hi]
theorem strSize (xs : List Int) : (strOfNums xs).size = xs.length := by
  simp [strOfNums, ByteArray.size]
set_option maxRecDepth 100000 in
set_option maxHeartbeats 8000000 in
theorem noise_1 (k n m : Int) (N : Nat) (w : World) (hN : N ≤ 4096) (hx : (n < 0 ∧ N = 0) ∨ (n = 0 ∧ N = 0) ∨ (0 < n ∧ n ≤ 4096 ∧ (N : Int) = n) ∨ (4096 < n ∧ N = 4096)) :
    Calls Tryd.prog 77 #[.int .i64 k, .int .i64 n, .int .i64 m] w (StrPost (SizeIs N) w) := by
  have qM := fun w => modK k 65537 (by omega) (by omega) w
  obtain ⟨i1, hi1, hz0, hz1, hz2⟩ := info_parts infoU8k
  obtain ⟨x0, hx0⟩ : ∃ x, k % 65537 = x := ⟨_, rfl⟩
  rw [hx0] at qM
  have k0 : 0 ≤ x0 := by omega
  have k1 : x0 < 65537 := by omega
  clear hx0
  rcases hx with ⟨g1, rfl⟩ | ⟨rfl, rfl⟩ | ⟨g1, g2, g3⟩ | ⟨g1, rfl⟩
  · have g2 : ¬ 4096 < n := by omega
    have hmk : ∀ W, (Instr.makeSlice 36 (.int .i64 0) (.int .i64 0)).run Tryd.prog W = _ := fun W => mk_bytes0 0 (by omega) W
    go_enter Tryd.func77, Tryd.ntmps77
    go_wp2_with (go_at_call 21; refine (qM _).mono ?_; rintro e w1 ⟨rfl, hb⟩)
    go_loopw [0, 7, 8] (fun x v i wr => ∃ (j : Nat) (y : Int) (g cap : Nat) (xs : List Int), j ≤ 0 ∧ i = .int .i64 (j : Int) ∧ x = .int .i64 y ∧ 0 ≤ y ∧ y < 65537 ∧ v = .slice (some ⟨g, 0, none⟩) j cap ∧ wr.ownsRow w1.heap.size 5 1 (.slice (some ⟨g, 0, none⟩) j cap) j (xs.map (Value.int .u8)) ∧ Below w1.heap.size w1 wr) (fun _ _ i _ => 0 - (intOf i).toNat)
    case atStart => exact ⟨0, x0, w1.heap.size, 0, [], by omega, rfl, rfl, k0, k1, rfl, own_mk0 0 (by omega) w1, (Below.refl _ _).alloc (Nat.le_refl _) _⟩
    case round =>
      obtain ⟨j, y, g, cap, xs, hj, rfl, rfl, y0, y1, rfl, ho, hbw⟩ := hrel
      have HO := Lib.hid ho
      have hsw := hbw.size
      clear ho
      by_cases hlt : j < 0
      · exact absurd hlt (Nat.not_lt_zero _)
      · obtain rfl : j = 0 := by omega
        obtain ⟨hl, hc⟩ := own_ints HO.out
        have hcv := run_convert_bytes_arg (P := Tryd.prog) wr 36 5 Tryd.underlying36 Tryd.underlying5 g 0 _ cap xs (by omega) hc 9 Tryd.underlying9
        have HL := Lib.hid hl
        clear hl hc
        go_wp2
        go_ret
        exact ⟨_, rfl, (strSize _).trans HL.out, hb.trans (hbw.mono hb.size)⟩
  · have hmk : ∀ W, (Instr.makeSlice 36 (.int .i64 0) (.int .i64 0)).run Tryd.prog W = _ := fun W => mk_bytes0 0 (by omega) W
    go_enter Tryd.func77, Tryd.ntmps77
    go_wp2_with (go_at_call 21; refine (qM _).mono ?_; rintro e w1 ⟨rfl, hb⟩)
    go_loopw [0, 7, 8] (fun x v i wr => ∃ (j : Nat) (y : Int) (g cap : Nat) (xs : List Int), j ≤ 0 ∧ i = .int .i64 (j : Int) ∧ x = .int .i64 y ∧ 0 ≤ y ∧ y < 65537 ∧ v = .slice (some ⟨g, 0, none⟩) j cap ∧ wr.ownsRow w1.heap.size 5 1 (.slice (some ⟨g, 0, none⟩) j cap) j (xs.map (Value.int .u8)) ∧ Below w1.heap.size w1 wr) (fun _ _ i _ => 0 - (intOf i).toNat)
    case atStart => exact ⟨0, x0, w1.heap.size, 0, [], by omega, rfl, rfl, k0, k1, rfl, own_mk0 0 (by omega) w1, (Below.refl _ _).alloc (Nat.le_refl _) _⟩
    case round =>
      obtain ⟨j, y, g, cap, xs, hj, rfl, rfl, y0, y1, rfl, ho, hbw⟩ := hrel
      have HO := Lib.hid ho
      have hsw := hbw.size
      clear ho
      by_cases hlt : j < 0
      · exact absurd hlt (Nat.not_lt_zero _)
      · obtain rfl : j = 0 := by omega
        obtain ⟨hl, hc⟩ := own_ints HO.out
        have hcv := run_convert_bytes_arg (P := Tryd.prog) wr 36 5 Tryd.underlying36 Tryd.underlying5 g 0 _ cap xs (by omega) hc 9 Tryd.underlying9
        have HL := Lib.hid hl
        clear hl hc
        go_wp2
        go_ret
        exact ⟨_, rfl, (strSize _).trans HL.out, hb.trans (hbw.mono hb.size)⟩
  · subst g3
    have hmk := fun W => mk_bytes0 N (by omega) W
    go_enter Tryd.func77, Tryd.ntmps77
    go_wp2_with (go_at_call 21; refine (qM _).mono ?_; rintro e w1 ⟨rfl, hb⟩)
    go_loopw [0, 7, 8] (fun x v i wr => ∃ (j : Nat) (y : Int) (g cap : Nat) (xs : List Int), j ≤ N ∧ i = .int .i64 (j : Int) ∧ x = .int .i64 y ∧ 0 ≤ y ∧ y < 65537 ∧ v = .slice (some ⟨g, 0, none⟩) j cap ∧ wr.ownsRow w1.heap.size 5 1 (.slice (some ⟨g, 0, none⟩) j cap) j (xs.map (Value.int .u8)) ∧ Below w1.heap.size w1 wr) (fun _ _ i _ => N - (intOf i).toNat)
    case atStart => exact ⟨0, x0, w1.heap.size, N, [], by omega, rfl, rfl, k0, k1, rfl, own_mk0 N (by omega) w1, (Below.refl _ _).alloc (Nat.le_refl _) _⟩
    case round =>
      obtain ⟨j, y, g, cap, xs, hj, rfl, rfl, y0, y1, rfl, ho, hbw⟩ := hrel
      have HO := Lib.hid ho
      have hsw := hbw.size
      clear ho
      by_cases hlt : j < N
      · have t1 : (j : Int) < 4096 := by omega
        have t2 : (j : Int) < (N : Int) := by omega
        have qA := fun w => modK (y * 75 + 74) 65537 (by omega) (by omega) w
        obtain ⟨z, hz⟩ : ∃ z, (y * 75 + 74) % 65537 = z := ⟨_, rfl⟩
        rw [hz] at qA
        have z0 : 0 ≤ z := by omega
        have z1 : z < 65537 := by omega
        have z2 : 0 ≤ z / 7 := by omega
        clear hz hj
        rcases (show m < 1 ∨ m = 1 ∨ (1 < m ∧ m < 256) ∨ m = 256 ∨ 256 < m by omega) with m1 | rfl | ⟨m1, m2⟩ | rfl | m1
        · have m3 : ¬ 1 ≤ m := by omega
          have m4 : m < 256 := by omega
          have m5 : ¬ 256 < m := by omega
          have m6 : ¬ 1 < m := by omega
          have m7 : ¬ 256 ≤ m := by omega
          have m8 : m ≤ 1 := by omega
          have qB := fun w => modK (z / 7) 1 (by omega) (by omega) w
          have hb0 : 0 ≤ z / 7 % 1 ∧ z / 7 % 1 < 256 := by omega
          obtain ⟨r0, r1⟩ := hb0
          go_wp2_with (first | (go_at_call 21; (with_reducible refine (qA _).mono ?_); rintro e wA ⟨rfl, hbA⟩; have hsA := hbA.size) | (go_at_call 21; (with_reducible refine (qB _).mono ?_); rintro e wB ⟨rfl, hbB⟩; have hsB := hbB.size; have HO2 := Lib.hid (ownsRow_later HO.out (hbA.trans (hbB.mono hsA)))) | (at_builtin; refine wpList_append_lies _ rfl _ _ 36 rfl w1.heap.size 5 i1 (.int .u8 0) 1 1 Tryd.underlying36 hi1 hz0 hz1 hz2 rfl (by decide) _ j _ rfl (HO2.out.alloc _) ⟨wB.heap.size, 0, none⟩ 1 1 [.int .u8 0] rfl rfl (cell_one_new _ _ _) (one_int_o _ _) (by decide) (by unfold maxLen; omega) (by omega) (by simp; omega) _ rfl ?_; intro gB capB wC hoC hgC hatC hltC))
          all_goals (try (go_wp2_with (first | (go_at_call 21; (with_reducible refine (qA _).mono ?_); rintro e wA ⟨rfl, hbA⟩; have hsA := hbA.size) | (go_at_call 21; (with_reducible refine (qB _).mono ?_); rintro e wB ⟨rfl, hbB⟩; have hsB := hbB.size; have HO2 := Lib.hid (ownsRow_later HO.out (hbA.trans (hbB.mono hsA)))) | (at_builtin; refine wpList_append_lies _ rfl _ _ 36 rfl w1.heap.size 5 i1 (.int .u8 0) 1 1 Tryd.underlying36 hi1 hz0 hz1 hz2 rfl (by decide) _ j _ rfl (HO2.out.alloc _) ⟨wB.heap.size, 0, none⟩ 1 1 [.int .u8 0] rfl rfl (cell_one_new _ _ _) (one_int_o _ _) (by decide) (by unfold maxLen; omega) (by omega) (by simp; omega) _ rfl ?_; intro gB capB wC hoC hgC hatC hltC))))
          all_goals
            go_roundw
            case rel =>
              refine ⟨j + 1, z, gB, capB, xs ++ [0], by omega, by go_num, rfl, z0, z1, rfl, ?_, ?_⟩
              · rw [List.map_append]; exact hoC
              · exact (((hbw.trans (hbA.mono hsw)).trans (hbB.mono (by omega))).alloc (by omega) _).grown hgC (by simp; omega) (own_base_o HO.out)
            case measure => go_light; simp [intOf] <;> omega
        · have qB := fun w => modK (z / 7) 1 (by omega) (by omega) w
          have hb0 : 0 ≤ z / 7 % 1 ∧ z / 7 % 1 < 256 := by omega
          obtain ⟨r0, r1⟩ := hb0
          go_wp2_with (first | (go_at_call 21; (with_reducible refine (qA _).mono ?_); rintro e wA ⟨rfl, hbA⟩; have hsA := hbA.size) | (go_at_call 21; (with_reducible refine (qB _).mono ?_); rintro e wB ⟨rfl, hbB⟩; have hsB := hbB.size; have HO2 := Lib.hid (ownsRow_later HO.out (hbA.trans (hbB.mono hsA)))) | (at_builtin; refine wpList_append_lies _ rfl _ _ 36 rfl w1.heap.size 5 i1 (.int .u8 0) 1 1 Tryd.underlying36 hi1 hz0 hz1 hz2 rfl (by decide) _ j _ rfl (HO2.out.alloc _) ⟨wB.heap.size, 0, none⟩ 1 1 [.int .u8 0] rfl rfl (cell_one_new _ _ _) (one_int_o _ _) (by decide) (by unfold maxLen; omega) (by omega) (by simp; omega) _ rfl ?_; intro gB capB wC hoC hgC hatC hltC))
          all_goals (try (go_wp2_with (first | (go_at_call 21; (with_reducible refine (qA _).mono ?_); rintro e wA ⟨rfl, hbA⟩; have hsA := hbA.size) | (go_at_call 21; (with_reducible refine (qB _).mono ?_); rintro e wB ⟨rfl, hbB⟩; have hsB := hbB.size; have HO2 := Lib.hid (ownsRow_later HO.out (hbA.trans (hbB.mono hsA)))) | (at_builtin; refine wpList_append_lies _ rfl _ _ 36 rfl w1.heap.size 5 i1 (.int .u8 0) 1 1 Tryd.underlying36 hi1 hz0 hz1 hz2 rfl (by decide) _ j _ rfl (HO2.out.alloc _) ⟨wB.heap.size, 0, none⟩ 1 1 [.int .u8 0] rfl rfl (cell_one_new _ _ _) (one_int_o _ _) (by decide) (by unfold maxLen; omega) (by omega) (by simp; omega) _ rfl ?_; intro gB capB wC hoC hgC hatC hltC))))
          all_goals
            go_roundw
            case rel =>
              refine ⟨j + 1, z, gB, capB, xs ++ [0], by omega, by go_num, rfl, z0, z1, rfl, ?_, ?_⟩
              · rw [List.map_append]; exact hoC
              · exact (((hbw.trans (hbA.mono hsw)).trans (hbB.mono (by omega))).alloc (by omega) _).grown hgC (by simp; omega) (own_base_o HO.out)
            case measure => go_light; simp [intOf] <;> omega
        · have qB := fun w => modK (z / 7) m (by omega) (by omega) w
          have hb0 : 0 ≤ z / 7 % m ∧ z / 7 % m < 256 := by
            have h1 := Int.emod_nonneg (z / 7) (b := m) (by omega)
            have h2 := Int.emod_lt_of_pos (z / 7) (b := m) (by omega)
            omega
          generalize z / 7 % m = r at qB hb0
          obtain ⟨r0, r1⟩ := hb0
          go_wp2_with (first | (go_at_call 21; (with_reducible refine (qA _).mono ?_); rintro e wA ⟨rfl, hbA⟩; have hsA := hbA.size) | (go_at_call 21; (with_reducible refine (qB _).mono ?_); rintro e wB ⟨rfl, hbB⟩; have hsB := hbB.size; have HO2 := Lib.hid (ownsRow_later HO.out (hbA.trans (hbB.mono hsA)))) | (at_builtin; refine wpList_append_lies _ rfl _ _ 36 rfl w1.heap.size 5 i1 (.int .u8 0) 1 1 Tryd.underlying36 hi1 hz0 hz1 hz2 rfl (by decide) _ j _ rfl (HO2.out.alloc _) ⟨wB.heap.size, 0, none⟩ 1 1 [.int .u8 r] rfl rfl (cell_one_new _ _ _) (one_int_o _ _) (by decide) (by unfold maxLen; omega) (by omega) (by simp; omega) _ rfl ?_; intro gB capB wC hoC hgC hatC hltC))
          all_goals (try (go_wp2_with (first | (go_at_call 21; (with_reducible refine (qA _).mono ?_); rintro e wA ⟨rfl, hbA⟩; have hsA := hbA.size) | (go_at_call 21; (with_reducible refine (qB _).mono ?_); rintro e wB ⟨rfl, hbB⟩; have hsB := hbB.size; have HO2 := Lib.hid (ownsRow_later HO.out (hbA.trans (hbB.mono hsA)))) | (at_builtin; refine wpList_append_lies _ rfl _ _ 36 rfl w1.heap.size 5 i1 (.int .u8 0) 1 1 Tryd.underlying36 hi1 hz0 hz1 hz2 rfl (by decide) _ j _ rfl (HO2.out.alloc _) ⟨wB.heap.size, 0, none⟩ 1 1 [.int .u8 r] rfl rfl (cell_one_new _ _ _) (one_int_o _ _) (by decide) (by unfold maxLen; omega) (by omega) (by simp; omega) _ rfl ?_; intro gB capB wC hoC hgC hatC hltC))))
          all_goals
            go_roundw
            case rel =>
              refine ⟨j + 1, z, gB, capB, xs ++ [r], by omega, by go_num, rfl, z0, z1, rfl, ?_, ?_⟩
              · rw [List.map_append]; exact hoC
              · exact (((hbw.trans (hbA.mono hsw)).trans (hbB.mono (by omega))).alloc (by omega) _).grown hgC (by simp; omega) (own_base_o HO.out)
            case measure => go_light; simp [intOf] <;> omega
        · have qB := fun w => modK (z / 7) 256 (by omega) (by omega) w
          have hb0 : 0 ≤ z / 7 % 256 ∧ z / 7 % 256 < 256 := by omega
          obtain ⟨r0, r1⟩ := hb0
          go_wp2_with (first | (go_at_call 21; (with_reducible refine (qA _).mono ?_); rintro e wA ⟨rfl, hbA⟩; have hsA := hbA.size) | (go_at_call 21; (with_reducible refine (qB _).mono ?_); rintro e wB ⟨rfl, hbB⟩; have hsB := hbB.size; have HO2 := Lib.hid (ownsRow_later HO.out (hbA.trans (hbB.mono hsA)))) | (at_builtin; refine wpList_append_lies _ rfl _ _ 36 rfl w1.heap.size 5 i1 (.int .u8 0) 1 1 Tryd.underlying36 hi1 hz0 hz1 hz2 rfl (by decide) _ j _ rfl (HO2.out.alloc _) ⟨wB.heap.size, 0, none⟩ 1 1 [.int .u8 (z / 7 % 256)] rfl rfl (cell_one_new _ _ _) (one_int_o _ _) (by decide) (by unfold maxLen; omega) (by omega) (by simp; omega) _ rfl ?_; intro gB capB wC hoC hgC hatC hltC))
          all_goals (try (go_wp2_with (first | (go_at_call 21; (with_reducible refine (qA _).mono ?_); rintro e wA ⟨rfl, hbA⟩; have hsA := hbA.size) | (go_at_call 21; (with_reducible refine (qB _).mono ?_); rintro e wB ⟨rfl, hbB⟩; have hsB := hbB.size; have HO2 := Lib.hid (ownsRow_later HO.out (hbA.trans (hbB.mono hsA)))) | (at_builtin; refine wpList_append_lies _ rfl _ _ 36 rfl w1.heap.size 5 i1 (.int .u8 0) 1 1 Tryd.underlying36 hi1 hz0 hz1 hz2 rfl (by decide) _ j _ rfl (HO2.out.alloc _) ⟨wB.heap.size, 0, none⟩ 1 1 [.int .u8 (z / 7 % 256)] rfl rfl (cell_one_new _ _ _) (one_int_o _ _) (by decide) (by unfold maxLen; omega) (by omega) (by simp; omega) _ rfl ?_; intro gB capB wC hoC hgC hatC hltC))))
          all_goals
            go_roundw
            case rel =>
              refine ⟨j + 1, z, gB, capB, xs ++ [(z / 7 % 256)], by omega, by go_num, rfl, z0, z1, rfl, ?_, ?_⟩
              · rw [List.map_append]; exact hoC
              · exact (((hbw.trans (hbA.mono hsw)).trans (hbB.mono (by omega))).alloc (by omega) _).grown hgC (by simp; omega) (own_base_o HO.out)
            case measure => go_light; simp [intOf] <;> omega
        · have qB := fun w => modK (z / 7) 256 (by omega) (by omega) w
          have hb0 : 0 ≤ z / 7 % 256 ∧ z / 7 % 256 < 256 := by omega
          obtain ⟨r0, r1⟩ := hb0
          go_wp2_with (first | (go_at_call 21; (with_reducible refine (qA _).mono ?_); rintro e wA ⟨rfl, hbA⟩; have hsA := hbA.size) | (go_at_call 21; (with_reducible refine (qB _).mono ?_); rintro e wB ⟨rfl, hbB⟩; have hsB := hbB.size; have HO2 := Lib.hid (ownsRow_later HO.out (hbA.trans (hbB.mono hsA)))) | (at_builtin; refine wpList_append_lies _ rfl _ _ 36 rfl w1.heap.size 5 i1 (.int .u8 0) 1 1 Tryd.underlying36 hi1 hz0 hz1 hz2 rfl (by decide) _ j _ rfl (HO2.out.alloc _) ⟨wB.heap.size, 0, none⟩ 1 1 [.int .u8 (z / 7 % 256)] rfl rfl (cell_one_new _ _ _) (one_int_o _ _) (by decide) (by unfold maxLen; omega) (by omega) (by simp; omega) _ rfl ?_; intro gB capB wC hoC hgC hatC hltC))
          all_goals (try (go_wp2_with (first | (go_at_call 21; (with_reducible refine (qA _).mono ?_); rintro e wA ⟨rfl, hbA⟩; have hsA := hbA.size) | (go_at_call 21; (with_reducible refine (qB _).mono ?_); rintro e wB ⟨rfl, hbB⟩; have hsB := hbB.size; have HO2 := Lib.hid (ownsRow_later HO.out (hbA.trans (hbB.mono hsA)))) | (at_builtin; refine wpList_append_lies _ rfl _ _ 36 rfl w1.heap.size 5 i1 (.int .u8 0) 1 1 Tryd.underlying36 hi1 hz0 hz1 hz2 rfl (by decide) _ j _ rfl (HO2.out.alloc _) ⟨wB.heap.size, 0, none⟩ 1 1 [.int .u8 (z / 7 % 256)] rfl rfl (cell_one_new _ _ _) (one_int_o _ _) (by decide) (by unfold maxLen; omega) (by omega) (by simp; omega) _ rfl ?_; intro gB capB wC hoC hgC hatC hltC))))
          all_goals
            go_roundw
            case rel =>
              refine ⟨j + 1, z, gB, capB, xs ++ [(z / 7 % 256)], by omega, by go_num, rfl, z0, z1, rfl, ?_, ?_⟩
              · rw [List.map_append]; exact hoC
              · exact (((hbw.trans (hbA.mono hsw)).trans (hbB.mono (by omega))).alloc (by omega) _).grown hgC (by simp; omega) (own_base_o HO.out)
            case measure => go_light; simp [intOf] <;> omega
      · obtain rfl : j = N := by omega
        obtain ⟨hl, hc⟩ := own_ints HO.out
        have hcv := run_convert_bytes_arg (P := Tryd.prog) wr 36 5 Tryd.underlying36 Tryd.underlying5 g 0 _ cap xs (by omega) hc 9 Tryd.underlying9
        have HL := Lib.hid hl
        clear hl hc
        go_wp2
        go_ret
        exact ⟨_, rfl, (strSize _).trans HL.out, hb.trans (hbw.mono hb.size)⟩
  · have hmk : ∀ W, (Instr.makeSlice 36 (.int .i64 0) (.int .i64 4096)).run Tryd.prog W = _ := fun W => mk_bytes0 4096 (by omega) W
    go_enter Tryd.func77, Tryd.ntmps77
    go_wp2_with (go_at_call 21; refine (qM _).mono ?_; rintro e w1 ⟨rfl, hb⟩)
    go_loopw [0, 7, 8] (fun x v i wr => ∃ (j : Nat) (y : Int) (g cap : Nat) (xs : List Int), j ≤ 4096 ∧ i = .int .i64 (j : Int) ∧ x = .int .i64 y ∧ 0 ≤ y ∧ y < 65537 ∧ v = .slice (some ⟨g, 0, none⟩) j cap ∧ wr.ownsRow w1.heap.size 5 1 (.slice (some ⟨g, 0, none⟩) j cap) j (xs.map (Value.int .u8)) ∧ Below w1.heap.size w1 wr) (fun _ _ i _ => 4096 - (intOf i).toNat)
    case atStart => exact ⟨0, x0, w1.heap.size, 4096, [], by omega, rfl, rfl, k0, k1, rfl, own_mk0 4096 (by omega) w1, (Below.refl _ _).alloc (Nat.le_refl _) _⟩
    case round =>
      obtain ⟨j, y, g, cap, xs, hj, rfl, rfl, y0, y1, rfl, ho, hbw⟩ := hrel
      have HO := Lib.hid ho
      have hsw := hbw.size
      clear ho
      by_cases hlt : j < 4096
      · have t1 : (j : Int) < 4096 := by omega
        have t2 : (j : Int) < n := by omega
        have qA := fun w => modK (y * 75 + 74) 65537 (by omega) (by omega) w
        obtain ⟨z, hz⟩ : ∃ z, (y * 75 + 74) % 65537 = z := ⟨_, rfl⟩
        rw [hz] at qA
        have z0 : 0 ≤ z := by omega
        have z1 : z < 65537 := by omega
        have z2 : 0 ≤ z / 7 := by omega
        clear hz hj
        rcases (show m < 1 ∨ m = 1 ∨ (1 < m ∧ m < 256) ∨ m = 256 ∨ 256 < m by omega) with m1 | rfl | ⟨m1, m2⟩ | rfl | m1
        · have m3 : ¬ 1 ≤ m := by omega
          have m4 : m < 256 := by omega
          have m5 : ¬ 256 < m := by omega
          have m6 : ¬ 1 < m := by omega
          have m7 : ¬ 256 ≤ m := by omega
          have m8 : m ≤ 1 := by omega
          have qB := fun w => modK (z / 7) 1 (by omega) (by omega) w
          have hb0 : 0 ≤ z / 7 % 1 ∧ z / 7 % 1 < 256 := by omega
          obtain ⟨r0, r1⟩ := hb0
          go_wp2_with (first | (go_at_call 21; (with_reducible refine (qA _).mono ?_); rintro e wA ⟨rfl, hbA⟩; have hsA := hbA.size) | (go_at_call 21; (with_reducible refine (qB _).mono ?_); rintro e wB ⟨rfl, hbB⟩; have hsB := hbB.size; have HO2 := Lib.hid (ownsRow_later HO.out (hbA.trans (hbB.mono hsA)))) | (at_builtin; refine wpList_append_lies _ rfl _ _ 36 rfl w1.heap.size 5 i1 (.int .u8 0) 1 1 Tryd.underlying36 hi1 hz0 hz1 hz2 rfl (by decide) _ j _ rfl (HO2.out.alloc _) ⟨wB.heap.size, 0, none⟩ 1 1 [.int .u8 0] rfl rfl (cell_one_new _ _ _) (one_int_o _ _) (by decide) (by unfold maxLen; omega) (by omega) (by simp; omega) _ rfl ?_; intro gB capB wC hoC hgC hatC hltC))
          all_goals (try (go_wp2_with (first | (go_at_call 21; (with_reducible refine (qA _).mono ?_); rintro e wA ⟨rfl, hbA⟩; have hsA := hbA.size) | (go_at_call 21; (with_reducible refine (qB _).mono ?_); rintro e wB ⟨rfl, hbB⟩; have hsB := hbB.size; have HO2 := Lib.hid (ownsRow_later HO.out (hbA.trans (hbB.mono hsA)))) | (at_builtin; refine wpList_append_lies _ rfl _ _ 36 rfl w1.heap.size 5 i1 (.int .u8 0) 1 1 Tryd.underlying36 hi1 hz0 hz1 hz2 rfl (by decide) _ j _ rfl (HO2.out.alloc _) ⟨wB.heap.size, 0, none⟩ 1 1 [.int .u8 0] rfl rfl (cell_one_new _ _ _) (one_int_o _ _) (by decide) (by unfold maxLen; omega) (by omega) (by simp; omega) _ rfl ?_; intro gB capB wC hoC hgC hatC hltC))))
          all_goals
            go_roundw
            case rel =>
              refine ⟨j + 1, z, gB, capB, xs ++ [0], by omega, by go_num, rfl, z0, z1, rfl, ?_, ?_⟩
              · rw [List.map_append]; exact hoC
              · exact (((hbw.trans (hbA.mono hsw)).trans (hbB.mono (by omega))).alloc (by omega) _).grown hgC (by simp; omega) (own_base_o HO.out)
            case measure => go_light; simp [intOf] <;> omega
        · have qB := fun w => modK (z / 7) 1 (by omega) (by omega) w
          have hb0 : 0 ≤ z / 7 % 1 ∧ z / 7 % 1 < 256 := by omega
          obtain ⟨r0, r1⟩ := hb0
          go_wp2_with (first | (go_at_call 21; (with_reducible refine (qA _).mono ?_); rintro e wA ⟨rfl, hbA⟩; have hsA := hbA.size) | (go_at_call 21; (with_reducible refine (qB _).mono ?_); rintro e wB ⟨rfl, hbB⟩; have hsB := hbB.size; have HO2 := Lib.hid (ownsRow_later HO.out (hbA.trans (hbB.mono hsA)))) | (at_builtin; refine wpList_append_lies _ rfl _ _ 36 rfl w1.heap.size 5 i1 (.int .u8 0) 1 1 Tryd.underlying36 hi1 hz0 hz1 hz2 rfl (by decide) _ j _ rfl (HO2.out.alloc _) ⟨wB.heap.size, 0, none⟩ 1 1 [.int .u8 0] rfl rfl (cell_one_new _ _ _) (one_int_o _ _) (by decide) (by unfold maxLen; omega) (by omega) (by simp; omega) _ rfl ?_; intro gB capB wC hoC hgC hatC hltC))
          all_goals (try (go_wp2_with (first | (go_at_call 21; (with_reducible refine (qA _).mono ?_); rintro e wA ⟨rfl, hbA⟩; have hsA := hbA.size) | (go_at_call 21; (with_reducible refine (qB _).mono ?_); rintro e wB ⟨rfl, hbB⟩; have hsB := hbB.size; have HO2 := Lib.hid (ownsRow_later HO.out (hbA.trans (hbB.mono hsA)))) | (at_builtin; refine wpList_append_lies _ rfl _ _ 36 rfl w1.heap.size 5 i1 (.int .u8 0) 1 1 Tryd.underlying36 hi1 hz0 hz1 hz2 rfl (by decide) _ j _ rfl (HO2.out.alloc _) ⟨wB.heap.size, 0, none⟩ 1 1 [.int .u8 0] rfl rfl (cell_one_new _ _ _) (one_int_o _ _) (by decide) (by unfold maxLen; omega) (by omega) (by simp; omega) _ rfl ?_; intro gB capB wC hoC hgC hatC hltC))))
          all_goals
            go_roundw
            case rel =>
              refine ⟨j + 1, z, gB, capB, xs ++ [0], by omega, by go_num, rfl, z0, z1, rfl, ?_, ?_⟩
              · rw [List.map_append]; exact hoC
              · exact (((hbw.trans (hbA.mono hsw)).trans (hbB.mono (by omega))).alloc (by omega) _).grown hgC (by simp; omega) (own_base_o HO.out)
            case measure => go_light; simp [intOf] <;> omega
        · have qB := fun w => modK (z / 7) m (by omega) (by omega) w
          have hb0 : 0 ≤ z / 7 % m ∧ z / 7 % m < 256 := by
            have h1 := Int.emod_nonneg (z / 7) (b := m) (by omega)
            have h2 := Int.emod_lt_of_pos (z / 7) (b := m) (by omega)
            omega
          generalize z / 7 % m = r at qB hb0
          obtain ⟨r0, r1⟩ := hb0
          go_wp2_with (first | (go_at_call 21; (with_reducible refine (qA _).mono ?_); rintro e wA ⟨rfl, hbA⟩; have hsA := hbA.size) | (go_at_call 21; (with_reducible refine (qB _).mono ?_); rintro e wB ⟨rfl, hbB⟩; have hsB := hbB.size; have HO2 := Lib.hid (ownsRow_later HO.out (hbA.trans (hbB.mono hsA)))) | (at_builtin; refine wpList_append_lies _ rfl _ _ 36 rfl w1.heap.size 5 i1 (.int .u8 0) 1 1 Tryd.underlying36 hi1 hz0 hz1 hz2 rfl (by decide) _ j _ rfl (HO2.out.alloc _) ⟨wB.heap.size, 0, none⟩ 1 1 [.int .u8 r] rfl rfl (cell_one_new _ _ _) (one_int_o _ _) (by decide) (by unfold maxLen; omega) (by omega) (by simp; omega) _ rfl ?_; intro gB capB wC hoC hgC hatC hltC))
          all_goals (try (go_wp2_with (first | (go_at_call 21; (with_reducible refine (qA _).mono ?_); rintro e wA ⟨rfl, hbA⟩; have hsA := hbA.size) | (go_at_call 21; (with_reducible refine (qB _).mono ?_); rintro e wB ⟨rfl, hbB⟩; have hsB := hbB.size; have HO2 := Lib.hid (ownsRow_later HO.out (hbA.trans (hbB.mono hsA)))) | (at_builtin; refine wpList_append_lies _ rfl _ _ 36 rfl w1.heap.size 5 i1 (.int .u8 0) 1 1 Tryd.underlying36 hi1 hz0 hz1 hz2 rfl (by decide) _ j _ rfl (HO2.out.alloc _) ⟨wB.heap.size, 0, none⟩ 1 1 [.int .u8 r] rfl rfl (cell_one_new _ _ _) (one_int_o _ _) (by decide) (by unfold maxLen; omega) (by omega) (by simp; omega) _ rfl ?_; intro gB capB wC hoC hgC hatC hltC))))
          all_goals
            go_roundw
            case rel =>
              refine ⟨j + 1, z, gB, capB, xs ++ [r], by omega, by go_num, rfl, z0, z1, rfl, ?_, ?_⟩
              · rw [List.map_append]; exact hoC
              · exact (((hbw.trans (hbA.mono hsw)).trans (hbB.mono (by omega))).alloc (by omega) _).grown hgC (by simp; omega) (own_base_o HO.out)
            case measure => go_light; simp [intOf] <;> omega
        · have qB := fun w => modK (z / 7) 256 (by omega) (by omega) w
          have hb0 : 0 ≤ z / 7 % 256 ∧ z / 7 % 256 < 256 := by omega
          obtain ⟨r0, r1⟩ := hb0
          go_wp2_with (first | (go_at_call 21; (with_reducible refine (qA _).mono ?_); rintro e wA ⟨rfl, hbA⟩; have hsA := hbA.size) | (go_at_call 21; (with_reducible refine (qB _).mono ?_); rintro e wB ⟨rfl, hbB⟩; have hsB := hbB.size; have HO2 := Lib.hid (ownsRow_later HO.out (hbA.trans (hbB.mono hsA)))) | (at_builtin; refine wpList_append_lies _ rfl _ _ 36 rfl w1.heap.size 5 i1 (.int .u8 0) 1 1 Tryd.underlying36 hi1 hz0 hz1 hz2 rfl (by decide) _ j _ rfl (HO2.out.alloc _) ⟨wB.heap.size, 0, none⟩ 1 1 [.int .u8 (z / 7 % 256)] rfl rfl (cell_one_new _ _ _) (one_int_o _ _) (by decide) (by unfold maxLen; omega) (by omega) (by simp; omega) _ rfl ?_; intro gB capB wC hoC hgC hatC hltC))
          all_goals (try (go_wp2_with (first | (go_at_call 21; (with_reducible refine (qA _).mono ?_); rintro e wA ⟨rfl, hbA⟩; have hsA := hbA.size) | (go_at_call 21; (with_reducible refine (qB _).mono ?_); rintro e wB ⟨rfl, hbB⟩; have hsB := hbB.size; have HO2 := Lib.hid (ownsRow_later HO.out (hbA.trans (hbB.mono hsA)))) | (at_builtin; refine wpList_append_lies _ rfl _ _ 36 rfl w1.heap.size 5 i1 (.int .u8 0) 1 1 Tryd.underlying36 hi1 hz0 hz1 hz2 rfl (by decide) _ j _ rfl (HO2.out.alloc _) ⟨wB.heap.size, 0, none⟩ 1 1 [.int .u8 (z / 7 % 256)] rfl rfl (cell_one_new _ _ _) (one_int_o _ _) (by decide) (by unfold maxLen; omega) (by omega) (by simp; omega) _ rfl ?_; intro gB capB wC hoC hgC hatC hltC))))
          all_goals
            go_roundw
            case rel =>
              refine ⟨j + 1, z, gB, capB, xs ++ [(z / 7 % 256)], by omega, by go_num, rfl, z0, z1, rfl, ?_, ?_⟩
              · rw [List.map_append]; exact hoC
              · exact (((hbw.trans (hbA.mono hsw)).trans (hbB.mono (by omega))).alloc (by omega) _).grown hgC (by simp; omega) (own_base_o HO.out)
            case measure => go_light; simp [intOf] <;> omega
        · have qB := fun w => modK (z / 7) 256 (by omega) (by omega) w
          have hb0 : 0 ≤ z / 7 % 256 ∧ z / 7 % 256 < 256 := by omega
          obtain ⟨r0, r1⟩ := hb0
          go_wp2_with (first | (go_at_call 21; (with_reducible refine (qA _).mono ?_); rintro e wA ⟨rfl, hbA⟩; have hsA := hbA.size) | (go_at_call 21; (with_reducible refine (qB _).mono ?_); rintro e wB ⟨rfl, hbB⟩; have hsB := hbB.size; have HO2 := Lib.hid (ownsRow_later HO.out (hbA.trans (hbB.mono hsA)))) | (at_builtin; refine wpList_append_lies _ rfl _ _ 36 rfl w1.heap.size 5 i1 (.int .u8 0) 1 1 Tryd.underlying36 hi1 hz0 hz1 hz2 rfl (by decide) _ j _ rfl (HO2.out.alloc _) ⟨wB.heap.size, 0, none⟩ 1 1 [.int .u8 (z / 7 % 256)] rfl rfl (cell_one_new _ _ _) (one_int_o _ _) (by decide) (by unfold maxLen; omega) (by omega) (by simp; omega) _ rfl ?_; intro gB capB wC hoC hgC hatC hltC))
          all_goals (try (go_wp2_with (first | (go_at_call 21; (with_reducible refine (qA _).mono ?_); rintro e wA ⟨rfl, hbA⟩; have hsA := hbA.size) | (go_at_call 21; (with_reducible refine (qB _).mono ?_); rintro e wB ⟨rfl, hbB⟩; have hsB := hbB.size; have HO2 := Lib.hid (ownsRow_later HO.out (hbA.trans (hbB.mono hsA)))) | (at_builtin; refine wpList_append_lies _ rfl _ _ 36 rfl w1.heap.size 5 i1 (.int .u8 0) 1 1 Tryd.underlying36 hi1 hz0 hz1 hz2 rfl (by decide) _ j _ rfl (HO2.out.alloc _) ⟨wB.heap.size, 0, none⟩ 1 1 [.int .u8 (z / 7 % 256)] rfl rfl (cell_one_new _ _ _) (one_int_o _ _) (by decide) (by unfold maxLen; omega) (by omega) (by simp; omega) _ rfl ?_; intro gB capB wC hoC hgC hatC hltC))))
          all_goals
            go_roundw
            case rel =>
              refine ⟨j + 1, z, gB, capB, xs ++ [(z / 7 % 256)], by omega, by go_num, rfl, z0, z1, rfl, ?_, ?_⟩
              · rw [List.map_append]; exact hoC
              · exact (((hbw.trans (hbA.mono hsw)).trans (hbB.mono (by omega))).alloc (by omega) _).grown hgC (by simp; omega) (own_base_o HO.out)
            case measure => go_light; simp [intOf] <;> omega
      · obtain rfl : j = 4096 := by omega
        obtain ⟨hl, hc⟩ := own_ints HO.out
        have hcv := run_convert_bytes_arg (P := Tryd.prog) wr 36 5 Tryd.underlying36 Tryd.underlying5 g 0 _ cap xs (by omega) hc 9 Tryd.underlying9
        have HL := Lib.hid hl
        clear hl hc
        go_wp2
        go_ret
        exact ⟨_, rfl, (strSize _).trans HL.out, hb.trans (hbw.mono hb.size)⟩

/-- How many bytes noise has. -/
def nz (n : Int) : Nat := if n ≤ 0 then 0 else if n ≤ 4096 then n.toNat else 4096
theorem noise_k (k n m : Int) (w : World) : Calls Tryd.prog 77 #[.int .i64 k, .int .i64 n, .int .i64 m] w (StrPost (SizeIs (nz n)) w) := by
  unfold nz
  split
  · exact noise_1 k n m 0 w (by omega) (by omega)
  · split
    · exact noise_1 k n m n.toNat w (by omega) (by omega)
    · exact noise_1 k n m 4096 w (by omega) (by omega)
end Go.Proofs.YtmblpmaelglnpaaDoor
