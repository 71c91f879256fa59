/-
  Strings made of numbers, walked.
-/
import Derived.Test.YtmblpmaelglnpaaDoorRows
import Derived.Test.YtmblpmaelglnpaaDoorGBase
import Derived.Deep.Light
import Derived.Shelf.Abstract
import Derived.Shelf.RegionOpen
import Derived.OwnWalkIn
import Derived.TacticsInMore
import Derived.LoopNIn
import Derived.LoopIn
import Derived.Maps.OwnIn
import Derived.Outline
import Derived.Deep.AppendLies
namespace Go.Proofs.YtmblpmaelglnpaaDoor
open Go.RowKit
set_option linter.unusedSimpArgs false
set_option linter.unusedVariables false
attribute [local go_sem] Oper.semAt_some

/-- What hands back a string of which P is known. -/
def StrPost (P : ByteArray → Prop) (w : World) (e : Ending) (w' : World) : Prop := ∃ t, e = .returned (.string t) ∧ P t ∧ Below w.heap.size w w'
/-- A string of so many bytes. -/
def SizeIs (N : Nat) (t : ByteArray) : Prop := t.size = N
theorem infoU8k : (Tryd.prog.info? 5).map (fun i => (i.zero, i.size, i.bytes)) = some (some (.int .u8 0), 1, 1) := by kernel_rfl
/-- make([]byte, 0, c). -/
theorem mk_bytes0 (c : Nat) (hn : c ≤ 17592186044416) (w : World) : (Instr.makeSlice 36 (.int .i64 0) (.int .i64 (c : Int))).run Tryd.prog w =
    .ok (.slice (some ⟨w.heap.size, 0, none⟩) 0 c) (w.alloc (.cells (madeCells #[.int .u8 0] c) 5)) := by
  obtain ⟨i, hi, hz0, hz1, hz2⟩ := info_parts infoU8k
  have := run_make (P := Tryd.prog) w 36 5 i (.int .u8 0) Tryd.underlying36 hi hz0 .i64 .i64 0 c (by omega) (by omega) (by rw [hz2]; omega) (by omega)
  rw [this, hz1]
  simp [Value.cells]
theorem own_mk0 (c : Nat) (hn : c ≤ 4096) (w : World) : (w.alloc (.cells (madeCells #[.int .u8 0] c) 5)).ownsRow w.heap.size 5 1 (.slice (some ⟨w.heap.size, 0, none⟩) 0 c) 0 [] :=
  ⟨by simp, .inr ⟨_, c, _, rfl, Nat.le_refl _, heap_alloc_new _ _, Nat.zero_le _, by unfold maxLen; omega, by simp [size_madeCells], by simp⟩⟩
theorem own_ints {w : World} {base : Nat} {g n cap : Nat} {xs : List Int} (h : w.ownsRow base 5 1 (.slice (some ⟨g, 0, none⟩) n cap) n (xs.map (Value.int .u8))) : xs.length = n ∧ ∀ i, i < n → w.cell? ⟨g, 0 + i, none⟩ = some (.int .u8 (xs.getD i 0)) := by
  obtain ⟨hl, h⟩ := h
  simp at hl
  rcases h with ⟨h1, _⟩ | ⟨g', cap', cur, h1, _, hh, _, _, _, ht⟩
  · cases h1
  · cases h1
    refine ⟨hl, fun i hi => ?_⟩
    have e1 : w.cell? ⟨g, 0 + i, none⟩ = cur[i]? := by simp [World.cell?, hh]
    have e2 : (cur.toList.take (n * 1))[i]? = cur.toList[i]? := by rw [List.getElem?_take]; rw [if_pos (by omega)]
    rw [e1, ← Array.getElem?_toList, ← e2, ht]
    simp [hl, hi]
theorem strSize (xs : List Int) : (strOfNums xs).size = xs.length := by
  simp [strOfNums, ByteArray.size]
set_option maxRecDepth 100000 in
set_option maxHeartbeats 8000000 in
theorem noise_1 (k n m : Int) (N : Nat) (w : World) (hN : N ≤ 4096) (hx : (n < 0 ∧ N = 0) ∨ (n = 0 ∧ N = 0) ∨ (0 < n ∧ n ≤ 4096 ∧ (N : Int) = n) ∨ (4096 < n ∧ N = 4096)) :
    Calls Tryd.prog 77 #[.int .i64 k, .int .i64 n, .int .i64 m] w (StrPost (SizeIs N) w) := by
  have qM := fun w => modK k 65537 (by omega) (by omega) w
  obtain ⟨i1, hi1, hz0, hz1, hz2⟩ := info_parts infoU8k
  obtain ⟨x0, hx0⟩ : ∃ x, k % 65537 = x := ⟨_, rfl⟩
  rw [hx0] at qM
  have k0 : 0 ≤ x0 := by omega
  have k1 : x0 < 65537 := by omega
  clear hx0
  rcases hx with ⟨g1, rfl⟩ | ⟨rfl, rfl⟩ | ⟨g1, g2, g3⟩ | ⟨g1, rfl⟩
  · have g2 : ¬ 4096 < n := by omega
    have hmk : ∀ W, (Instr.makeSlice 36 (.int .i64 0) (.int .i64 0)).run Tryd.prog W = _ := fun W => mk_bytes0 0 (by omega) W
    go_enter Tryd.func77, Tryd.ntmps77
    go_wp2_with (go_at_call 21; refine (qM _).mono ?_; rintro e w1 ⟨rfl, hb⟩)
    go_loopw [0, 7, 8] (fun x v i wr => ∃ (j : Nat) (y : Int) (g cap : Nat) (xs : List Int), j ≤ 0 ∧ i = .int .i64 (j : Int) ∧ x = .int .i64 y ∧ 0 ≤ y ∧ y < 65537 ∧ v = .slice (some ⟨g, 0, none⟩) j cap ∧ wr.ownsRow w1.heap.size 5 1 (.slice (some ⟨g, 0, none⟩) j cap) j (xs.map (Value.int .u8)) ∧ Below w1.heap.size w1 wr) (fun _ _ i _ => 0 - (intOf i).toNat)
    case atStart => exact ⟨0, x0, w1.heap.size, 0, [], by omega, rfl, rfl, k0, k1, rfl, own_mk0 0 (by omega) w1, (Below.refl _ _).alloc (Nat.le_refl _) _⟩
    case round =>
      obtain ⟨j, y, g, cap, xs, hj, rfl, rfl, y0, y1, rfl, ho, hbw⟩ := hrel
      have HO := Lib.hid ho
      have hsw := hbw.size
      clear ho
      by_cases hlt : j < 0
      · exact absurd hlt (Nat.not_lt_zero _)
      · obtain rfl : j = 0 := by omega
        obtain ⟨hl, hc⟩ := own_ints HO.out
        have hcv := run_convert_bytes_arg (P := Tryd.prog) wr 36 5 Tryd.underlying36 Tryd.underlying5 g 0 _ cap xs (by omega) hc 9 Tryd.underlying9
        have HL := Lib.hid hl
        clear hl hc
        go_wp2
        go_ret
        exact ⟨_, rfl, (strSize _).trans HL.out, hb.trans (hbw.mono hb.size)⟩
  · have hmk : ∀ W, (Instr.makeSlice 36 (.int .i64 0) (.int .i64 0)).run Tryd.prog W = _ := fun W => mk_bytes0 0 (by omega) W
    go_enter Tryd.func77, Tryd.ntmps77
    go_wp2_with (go_at_call 21; refine (qM _).mono ?_; rintro e w1 ⟨rfl, hb⟩)
    go_loopw [0, 7, 8] (fun x v i wr => ∃ (j : Nat) (y : Int) (g cap : Nat) (xs : List Int), j ≤ 0 ∧ i = .int .i64 (j : Int) ∧ x = .int .i64 y ∧ 0 ≤ y ∧ y < 65537 ∧ v = .slice (some ⟨g, 0, none⟩) j cap ∧ wr.ownsRow w1.heap.size 5 1 (.slice (some ⟨g, 0, none⟩) j cap) j (xs.map (Value.int .u8)) ∧ Below w1.heap.size w1 wr) (fun _ _ i _ => 0 - (intOf i).toNat)
    case atStart => exact ⟨0, x0, w1.heap.size, 0, [], by omega, rfl, rfl, k0, k1, rfl, own_mk0 0 (by omega) w1, (Below.refl _ _).alloc (Nat.le_refl _) _⟩
    case round =>
      obtain ⟨j, y, g, cap, xs, hj, rfl, rfl, y0, y1, rfl, ho, hbw⟩ := hrel
      have HO := Lib.hid ho
      have hsw := hbw.size
      clear ho
      by_cases hlt : j < 0
      · exact absurd hlt (Nat.not_lt_zero _)
      · obtain rfl : j = 0 := by omega
        obtain ⟨hl, hc⟩ := own_ints HO.out
        have hcv := run_convert_bytes_arg (P := Tryd.prog) wr 36 5 Tryd.underlying36 Tryd.underlying5 g 0 _ cap xs (by omega) hc 9 Tryd.underlying9
        have HL := Lib.hid hl
        clear hl hc
        go_wp2
        go_ret
        exact ⟨_, rfl, (strSize _).trans HL.out, hb.trans (hbw.mono hb.size)⟩
  · subst g3
    have hmk := fun W => mk_bytes0 N (by omega) W
    go_enter Tryd.func77, Tryd.ntmps77
    go_wp2_with (go_at_call 21; refine (qM _).mono ?_; rintro e w1 ⟨rfl, hb⟩)
    go_loopw [0, 7, 8] (fun x v i wr => ∃ (j : Nat) (y : Int) (g cap : Nat) (xs : List Int), j ≤ N ∧ i = .int .i64 (j : Int) ∧ x = .int .i64 y ∧ 0 ≤ y ∧ y < 65537 ∧ v = .slice (some ⟨g, 0, none⟩) j cap ∧ wr.ownsRow w1.heap.size 5 1 (.slice (some ⟨g, 0, none⟩) j cap) j (xs.map (Value.int .u8)) ∧ Below w1.heap.size w1 wr) (fun _ _ i _ => N - (intOf i).toNat)
    case atStart => exact ⟨0, x0, w1.heap.size, N, [], by omega, rfl, rfl, k0, k1, rfl, own_mk0 N (by omega) w1, (Below.refl _ _).alloc (Nat.le_refl _) _⟩
    case round =>
      obtain ⟨j, y, g, cap, xs, hj, rfl, rfl, y0, y1, rfl, ho, hbw⟩ := hrel
      have HO := Lib.hid ho
      have hsw := hbw.size
      clear ho
      by_cases hlt : j < N
      · have t1 : (j : Int) < 4096 := by omega
        have t2 : (j : Int) < (N : Int) := by omega
        have qA := fun w => modK (y * 75 + 74) 65537 (by omega) (by omega) w
        obtain ⟨z, hz⟩ : ∃ z, (y * 75 + 74) % 65537 = z := ⟨_, rfl⟩
        rw [hz] at qA
        have z0 : 0 ≤ z := by omega
        have z1 : z < 65537 := by omega
        have z2 : 0 ≤ z / 7 := by omega
        clear hz hj
        rcases (show m < 1 ∨ m = 1 ∨ (1 < m ∧ m < 256) ∨ m = 256 ∨ 256 < m by omega) with m1 | rfl | ⟨m1, m2⟩ | rfl | m1
        · have m3 : ¬ 1 ≤ m := by omega
          have m4 : m < 256 := by omega
          have m5 : ¬ 256 < m := by omega
          have m6 : ¬ 1 < m := by omega
          have m7 : ¬ 256 ≤ m := by omega
          have m8 : m ≤ 1 := by omega
          have qB := fun w => modK (z / 7) 1 (by omega) (by omega) w
          have hb0 : 0 ≤ z / 7 % 1 ∧ z / 7 % 1 < 256 := by omega
          obtain ⟨r0, r1⟩ := hb0
          go_wp2_with (first | (go_at_call 21; (with_reducible refine (qA _).mono ?_); rintro e wA ⟨rfl, hbA⟩; have hsA := hbA.size) | (go_at_call 21; (with_reducible refine (qB _).mono ?_); rintro e wB ⟨rfl, hbB⟩; have hsB := hbB.size; have HO2 := Lib.hid (ownsRow_later HO.out (hbA.trans (hbB.mono hsA)))) | (at_builtin; refine wpList_append_lies _ rfl _ _ 36 rfl w1.heap.size 5 i1 (.int .u8 0) 1 1 Tryd.underlying36 hi1 hz0 hz1 hz2 rfl (by decide) _ j _ rfl (HO2.out.alloc _) ⟨wB.heap.size, 0, none⟩ 1 1 [.int .u8 0] rfl rfl (cell_one_new _ _ _) (one_int_o _ _) (by decide) (by unfold maxLen; omega) (by omega) (by simp; omega) _ rfl ?_; intro gB capB wC hoC hgC hatC hltC))
          all_goals (try (go_wp2_with (first | (go_at_call 21; (with_reducible refine (qA _).mono ?_); rintro e wA ⟨rfl, hbA⟩; have hsA := hbA.size) | (go_at_call 21; (with_reducible refine (qB _).mono ?_); rintro e wB ⟨rfl, hbB⟩; have hsB := hbB.size; have HO2 := Lib.hid (ownsRow_later HO.out (hbA.trans (hbB.mono hsA)))) | (at_builtin; refine wpList_append_lies _ rfl _ _ 36 rfl w1.heap.size 5 i1 (.int .u8 0) 1 1 Tryd.underlying36 hi1 hz0 hz1 hz2 rfl (by decide) _ j _ rfl (HO2.out.alloc _) ⟨wB.heap.size, 0, none⟩ 1 1 [.int .u8 0] rfl rfl (cell_one_new _ _ _) (one_int_o _ _) (by decide) (by unfold maxLen; omega) (by omega) (by simp; omega) _ rfl ?_; intro gB capB wC hoC hgC hatC hltC))))
          all_goals
            go_roundw
            case rel =>
              refine ⟨j + 1, z, gB, capB, xs ++ [0], by omega, by go_num, rfl, z0, z1, rfl, ?_, ?_⟩
              · rw [List.map_append]; exact hoC
              · exact (((hbw.trans (hbA.mono hsw)).trans (hbB.mono (by omega))).alloc (by omega) _).grown hgC (by simp; omega) (own_base_o HO.out)
            case measure => go_light; simp [intOf] <;> omega
        · have qB := fun w => modK (z / 7) 1 (by omega) (by omega) w
          have hb0 : 0 ≤ z / 7 % 1 ∧ z / 7 % 1 < 256 := by omega
          obtain ⟨r0, r1⟩ := hb0
          go_wp2_with (first | (go_at_call 21; (with_reducible refine (qA _).mono ?_); rintro e wA ⟨rfl, hbA⟩; have hsA := hbA.size) | (go_at_call 21; (with_reducible refine (qB _).mono ?_); rintro e wB ⟨rfl, hbB⟩; have hsB := hbB.size; have HO2 := Lib.hid (ownsRow_later HO.out (hbA.trans (hbB.mono hsA)))) | (at_builtin; refine wpList_append_lies _ rfl _ _ 36 rfl w1.heap.size 5 i1 (.int .u8 0) 1 1 Tryd.underlying36 hi1 hz0 hz1 hz2 rfl (by decide) _ j _ rfl (HO2.out.alloc _) ⟨wB.heap.size, 0, none⟩ 1 1 [.int .u8 0] rfl rfl (cell_one_new _ _ _) (one_int_o _ _) (by decide) (by unfold maxLen; omega) (by omega) (by simp; omega) _ rfl ?_; intro gB capB wC hoC hgC hatC hltC))
          all_goals (try (go_wp2_with (first | (go_at_call 21; (with_reducible refine (qA _).mono ?_); rintro e wA ⟨rfl, hbA⟩; have hsA := hbA.size) | (go_at_call 21; (with_reducible refine (qB _).mono ?_); rintro e wB ⟨rfl, hbB⟩; have hsB := hbB.size; have HO2 := Lib.hid (ownsRow_later HO.out (hbA.trans (hbB.mono hsA)))) | (at_builtin; refine wpList_append_lies _ rfl _ _ 36 rfl w1.heap.size 5 i1 (.int .u8 0) 1 1 Tryd.underlying36 hi1 hz0 hz1 hz2 rfl (by decide) _ j _ rfl (HO2.out.alloc _) ⟨wB.heap.size, 0, none⟩ 1 1 [.int .u8 0] rfl rfl (cell_one_new _ _ _) (one_int_o _ _) (by decide) (by unfold maxLen; omega) (by omega) (by simp; omega) _ rfl ?_; intro gB capB wC hoC hgC hatC hltC))))
          all_goals
            go_roundw
            case rel =>
              refine ⟨j + 1, z, gB, capB, xs ++ [0], by omega, by go_num, rfl, z0, z1, rfl, ?_, ?_⟩
              · rw [List.map_append]; exact hoC
              · exact (((hbw.trans (hbA.mono hsw)).trans (hbB.mono (by omega))).alloc (by omega) _).grown hgC (by simp; omega) (own_base_o HO.out)
            case measure => go_light; simp [intOf] <;> omega
        · have qB := fun w => modK (z / 7) m (by omega) (by omega) w
          have hb0 : 0 ≤ z / 7 % m ∧ z / 7 % m < 256 := by
            have h1 := Int.emod_nonneg (z / 7) (b := m) (by omega)
            have h2 := Int.emod_lt_of_pos (z / 7) (b := m) (by omega)
            omega
          generalize z / 7 % m = r at qB hb0
          obtain ⟨r0, r1⟩ := hb0
          go_wp2_with (first | (go_at_call 21; (with_reducible refine (qA _).mono ?_); rintro e wA ⟨rfl, hbA⟩; have hsA := hbA.size) | (go_at_call 21; (with_reducible refine (qB _).mono ?_); rintro e wB ⟨rfl, hbB⟩; have hsB := hbB.size; have HO2 := Lib.hid (ownsRow_later HO.out (hbA.trans (hbB.mono hsA)))) | (at_builtin; refine wpList_append_lies _ rfl _ _ 36 rfl w1.heap.size 5 i1 (.int .u8 0) 1 1 Tryd.underlying36 hi1 hz0 hz1 hz2 rfl (by decide) _ j _ rfl (HO2.out.alloc _) ⟨wB.heap.size, 0, none⟩ 1 1 [.int .u8 r] rfl rfl (cell_one_new _ _ _) (one_int_o _ _) (by decide) (by unfold maxLen; omega) (by omega) (by simp; omega) _ rfl ?_; intro gB capB wC hoC hgC hatC hltC))
          all_goals (try (go_wp2_with (first | (go_at_call 21; (with_reducible refine (qA _).mono ?_); rintro e wA ⟨rfl, hbA⟩; have hsA := hbA.size) | (go_at_call 21; (with_reducible refine (qB _).mono ?_); rintro e wB ⟨rfl, hbB⟩; have hsB := hbB.size; have HO2 := Lib.hid (ownsRow_later HO.out (hbA.trans (hbB.mono hsA)))) | (at_builtin; refine wpList_append_lies _ rfl _ _ 36 rfl w1.heap.size 5 i1 (.int .u8 0) 1 1 Tryd.underlying36 hi1 hz0 hz1 hz2 rfl (by decide) _ j _ rfl (HO2.out.alloc _) ⟨wB.heap.size, 0, none⟩ 1 1 [.int .u8 r] rfl rfl (cell_one_new _ _ _) (one_int_o _ _) (by decide) (by unfold maxLen; omega) (by omega) (by simp; omega) _ rfl ?_; intro gB capB wC hoC hgC hatC hltC))))
          all_goals
            go_roundw
            case rel =>
              refine ⟨j + 1, z, gB, capB, xs ++ [r], by omega, by go_num, rfl, z0, z1, rfl, ?_, ?_⟩
              · rw [List.map_append]; exact hoC
              · exact (((hbw.trans (hbA.mono hsw)).trans (hbB.mono (by omega))).alloc (by omega) _).grown hgC (by simp; omega) (own_base_o HO.out)
            case measure => go_light; simp [intOf] <;> omega
        · have qB := fun w => modK (z / 7) 256 (by omega) (by omega) w
          have hb0 : 0 ≤ z / 7 % 256 ∧ z / 7 % 256 < 256 := by omega
          obtain ⟨r0, r1⟩ := hb0
          go_wp2_with (first | (go_at_call 21; (with_reducible refine (qA _).mono ?_); rintro e wA ⟨rfl, hbA⟩; have hsA := hbA.size) | (go_at_call 21; (with_reducible refine (qB _).mono ?_); rintro e wB ⟨rfl, hbB⟩; have hsB := hbB.size; have HO2 := Lib.hid (ownsRow_later HO.out (hbA.trans (hbB.mono hsA)))) | (at_builtin; refine wpList_append_lies _ rfl _ _ 36 rfl w1.heap.size 5 i1 (.int .u8 0) 1 1 Tryd.underlying36 hi1 hz0 hz1 hz2 rfl (by decide) _ j _ rfl (HO2.out.alloc _) ⟨wB.heap.size, 0, none⟩ 1 1 [.int .u8 (z / 7 % 256)] rfl rfl (cell_one_new _ _ _) (one_int_o _ _) (by decide) (by unfold maxLen; omega) (by omega) (by simp; omega) _ rfl ?_; intro gB capB wC hoC hgC hatC hltC))
          all_goals (try (go_wp2_with (first | (go_at_call 21; (with_reducible refine (qA _).mono ?_); rintro e wA ⟨rfl, hbA⟩; have hsA := hbA.size) | (go_at_call 21; (with_reducible refine (qB _).mono ?_); rintro e wB ⟨rfl, hbB⟩; have hsB := hbB.size; have HO2 := Lib.hid (ownsRow_later HO.out (hbA.trans (hbB.mono hsA)))) | (at_builtin; refine wpList_append_lies _ rfl _ _ 36 rfl w1.heap.size 5 i1 (.int .u8 0) 1 1 Tryd.underlying36 hi1 hz0 hz1 hz2 rfl (by decide) _ j _ rfl (HO2.out.alloc _) ⟨wB.heap.size, 0, none⟩ 1 1 [.int .u8 (z / 7 % 256)] rfl rfl (cell_one_new _ _ _) (one_int_o _ _) (by decide) (by unfold maxLen; omega) (by omega) (by simp; omega) _ rfl ?_; intro gB capB wC hoC hgC hatC hltC))))
          all_goals
            go_roundw
            case rel =>
              refine ⟨j + 1, z, gB, capB, xs ++ [(z / 7 % 256)], by omega, by go_num, rfl, z0, z1, rfl, ?_, ?_⟩
              · rw [List.map_append]; exact hoC
              · exact (((hbw.trans (hbA.mono hsw)).trans (hbB.mono (by omega))).alloc (by omega) _).grown hgC (by simp; omega) (own_base_o HO.out)
            case measure => go_light; simp [intOf] <;> omega
        · have qB := fun w => modK (z / 7) 256 (by omega) (by omega) w
          have hb0 : 0 ≤ z / 7 % 256 ∧ z / 7 % 256 < 256 := by omega
          obtain ⟨r0, r1⟩ := hb0
          go_wp2_with (first | (go_at_call 21; (with_reducible refine (qA _).mono ?_); rintro e wA ⟨rfl, hbA⟩; have hsA := hbA.size) | (go_at_call 21; (with_reducible refine (qB _).mono ?_); rintro e wB ⟨rfl, hbB⟩; have hsB := hbB.size; have HO2 := Lib.hid (ownsRow_later HO.out (hbA.trans (hbB.mono hsA)))) | (at_builtin; refine wpList_append_lies _ rfl _ _ 36 rfl w1.heap.size 5 i1 (.int .u8 0) 1 1 Tryd.underlying36 hi1 hz0 hz1 hz2 rfl (by decide) _ j _ rfl (HO2.out.alloc _) ⟨wB.heap.size, 0, none⟩ 1 1 [.int .u8 (z / 7 % 256)] rfl rfl (cell_one_new _ _ _) (one_int_o _ _) (by decide) (by unfold maxLen; omega) (by omega) (by simp; omega) _ rfl ?_; intro gB capB wC hoC hgC hatC hltC))
          all_goals (try (go_wp2_with (first | (go_at_call 21; (with_reducible refine (qA _).mono ?_); rintro e wA ⟨rfl, hbA⟩; have hsA := hbA.size) | (go_at_call 21; (with_reducible refine (qB _).mono ?_); rintro e wB ⟨rfl, hbB⟩; have hsB := hbB.size; have HO2 := Lib.hid (ownsRow_later HO.out (hbA.trans (hbB.mono hsA)))) | (at_builtin; refine wpList_append_lies _ rfl _ _ 36 rfl w1.heap.size 5 i1 (.int .u8 0) 1 1 Tryd.underlying36 hi1 hz0 hz1 hz2 rfl (by decide) _ j _ rfl (HO2.out.alloc _) ⟨wB.heap.size, 0, none⟩ 1 1 [.int .u8 (z / 7 % 256)] rfl rfl (cell_one_new _ _ _) (one_int_o _ _) (by decide) (by unfold maxLen; omega) (by omega) (by simp; omega) _ rfl ?_; intro gB capB wC hoC hgC hatC hltC))))
          all_goals
            go_roundw
            case rel =>
              refine ⟨j + 1, z, gB, capB, xs ++ [(z / 7 % 256)], by omega, by go_num, rfl, z0, z1, rfl, ?_, ?_⟩
              · rw [List.map_append]; exact hoC
              · exact (((hbw.trans (hbA.mono hsw)).trans (hbB.mono (by omega))).alloc (by omega) _).grown hgC (by simp; omega) (own_base_o HO.out)
            case measure => go_light; simp [intOf] <;> omega
      · obtain rfl : j = N := by omega
        obtain ⟨hl, hc⟩ := own_ints HO.out
        have hcv := run_convert_bytes_arg (P := Tryd.prog) wr 36 5 Tryd.underlying36 Tryd.underlying5 g 0 _ cap xs (by omega) hc 9 Tryd.underlying9
        have HL := Lib.hid hl
        clear hl hc
        go_wp2
        go_ret
        exact ⟨_, rfl, (strSize _).trans HL.out, hb.trans (hbw.mono hb.size)⟩
  · have hmk : ∀ W, (Instr.makeSlice 36 (.int .i64 0) (.int .i64 4096)).run Tryd.prog W = _ := fun W => mk_bytes0 4096 (by omega) W
    go_enter Tryd.func77, Tryd.ntmps77
    go_wp2_with (go_at_call 21; refine (qM _).mono ?_; rintro e w1 ⟨rfl, hb⟩)
    go_loopw [0, 7, 8] (fun x v i wr => ∃ (j : Nat) (y : Int) (g cap : Nat) (xs : List Int), j ≤ 4096 ∧ i = .int .i64 (j : Int) ∧ x = .int .i64 y ∧ 0 ≤ y ∧ y < 65537 ∧ v = .slice (some ⟨g, 0, none⟩) j cap ∧ wr.ownsRow w1.heap.size 5 1 (.slice (some ⟨g, 0, none⟩) j cap) j (xs.map (Value.int .u8)) ∧ Below w1.heap.size w1 wr) (fun _ _ i _ => 4096 - (intOf i).toNat)
    case atStart => exact ⟨0, x0, w1.heap.size, 4096, [], by omega, rfl, rfl, k0, k1, rfl, own_mk0 4096 (by omega) w1, (Below.refl _ _).alloc (Nat.le_refl _) _⟩
    case round =>
      obtain ⟨j, y, g, cap, xs, hj, rfl, rfl, y0, y1, rfl, ho, hbw⟩ := hrel
      have HO := Lib.hid ho
      have hsw := hbw.size
      clear ho
      by_cases hlt : j < 4096
      · have t1 : (j : Int) < 4096 := by omega
        have t2 : (j : Int) < n := by omega
        have qA := fun w => modK (y * 75 + 74) 65537 (by omega) (by omega) w
        obtain ⟨z, hz⟩ : ∃ z, (y * 75 + 74) % 65537 = z := ⟨_, rfl⟩
        rw [hz] at qA
        have z0 : 0 ≤ z := by omega
        have z1 : z < 65537 := by omega
        have z2 : 0 ≤ z / 7 := by omega
        clear hz hj
        rcases (show m < 1 ∨ m = 1 ∨ (1 < m ∧ m < 256) ∨ m = 256 ∨ 256 < m by omega) with m1 | rfl | ⟨m1, m2⟩ | rfl | m1
        · have m3 : ¬ 1 ≤ m := by omega
          have m4 : m < 256 := by omega
          have m5 : ¬ 256 < m := by omega
          have m6 : ¬ 1 < m := by omega
          have m7 : ¬ 256 ≤ m := by omega
          have m8 : m ≤ 1 := by omega
          have qB := fun w => modK (z / 7) 1 (by omega) (by omega) w
          have hb0 : 0 ≤ z / 7 % 1 ∧ z / 7 % 1 < 256 := by omega
          obtain ⟨r0, r1⟩ := hb0
          go_wp2_with (first | (go_at_call 21; (with_reducible refine (qA _).mono ?_); rintro e wA ⟨rfl, hbA⟩; have hsA := hbA.size) | (go_at_call 21; (with_reducible refine (qB _).mono ?_); rintro e wB ⟨rfl, hbB⟩; have hsB := hbB.size; have HO2 := Lib.hid (ownsRow_later HO.out (hbA.trans (hbB.mono hsA)))) | (at_builtin; refine wpList_append_lies _ rfl _ _ 36 rfl w1.heap.size 5 i1 (.int .u8 0) 1 1 Tryd.underlying36 hi1 hz0 hz1 hz2 rfl (by decide) _ j _ rfl (HO2.out.alloc _) ⟨wB.heap.size, 0, none⟩ 1 1 [.int .u8 0] rfl rfl (cell_one_new _ _ _) (one_int_o _ _) (by decide) (by unfold maxLen; omega) (by omega) (by simp; omega) _ rfl ?_; intro gB capB wC hoC hgC hatC hltC))
          all_goals (try (go_wp2_with (first | (go_at_call 21; (with_reducible refine (qA _).mono ?_); rintro e wA ⟨rfl, hbA⟩; have hsA := hbA.size) | (go_at_call 21; (with_reducible refine (qB _).mono ?_); rintro e wB ⟨rfl, hbB⟩; have hsB := hbB.size; have HO2 := Lib.hid (ownsRow_later HO.out (hbA.trans (hbB.mono hsA)))) | (at_builtin; refine wpList_append_lies _ rfl _ _ 36 rfl w1.heap.size 5 i1 (.int .u8 0) 1 1 Tryd.underlying36 hi1 hz0 hz1 hz2 rfl (by decide) _ j _ rfl (HO2.out.alloc _) ⟨wB.heap.size, 0, none⟩ 1 1 [.int .u8 0] rfl rfl (cell_one_new _ _ _) (one_int_o _ _) (by decide) (by unfold maxLen; omega) (by omega) (by simp; omega) _ rfl ?_; intro gB capB wC hoC hgC hatC hltC))))
          all_goals
            go_roundw
            case rel =>
              refine ⟨j + 1, z, gB, capB, xs ++ [0], by omega, by go_num, rfl, z0, z1, rfl, ?_, ?_⟩
              · rw [List.map_append]; exact hoC
              · exact (((hbw.trans (hbA.mono hsw)).trans (hbB.mono (by omega))).alloc (by omega) _).grown hgC (by simp; omega) (own_base_o HO.out)
            case measure => go_light; simp [intOf] <;> omega
        · have qB := fun w => modK (z / 7) 1 (by omega) (by omega) w
          have hb0 : 0 ≤ z / 7 % 1 ∧ z / 7 % 1 < 256 := by omega
          obtain ⟨r0, r1⟩ := hb0
          go_wp2_with (first | (go_at_call 21; (with_reducible refine (qA _).mono ?_); rintro e wA ⟨rfl, hbA⟩; have hsA := hbA.size) | (go_at_call 21; (with_reducible refine (qB _).mono ?_); rintro e wB ⟨rfl, hbB⟩; have hsB := hbB.size; have HO2 := Lib.hid (ownsRow_later HO.out (hbA.trans (hbB.mono hsA)))) | (at_builtin; refine wpList_append_lies _ rfl _ _ 36 rfl w1.heap.size 5 i1 (.int .u8 0) 1 1 Tryd.underlying36 hi1 hz0 hz1 hz2 rfl (by decide) _ j _ rfl (HO2.out.alloc _) ⟨wB.heap.size, 0, none⟩ 1 1 [.int .u8 0] rfl rfl (cell_one_new _ _ _) (one_int_o _ _) (by decide) (by unfold maxLen; omega) (by omega) (by simp; omega) _ rfl ?_; intro gB capB wC hoC hgC hatC hltC))
          all_goals (try (go_wp2_with (first | (go_at_call 21; (with_reducible refine (qA _).mono ?_); rintro e wA ⟨rfl, hbA⟩; have hsA := hbA.size) | (go_at_call 21; (with_reducible refine (qB _).mono ?_); rintro e wB ⟨rfl, hbB⟩; have hsB := hbB.size; have HO2 := Lib.hid (ownsRow_later HO.out (hbA.trans (hbB.mono hsA)))) | (at_builtin; refine wpList_append_lies _ rfl _ _ 36 rfl w1.heap.size 5 i1 (.int .u8 0) 1 1 Tryd.underlying36 hi1 hz0 hz1 hz2 rfl (by decide) _ j _ rfl (HO2.out.alloc _) ⟨wB.heap.size, 0, none⟩ 1 1 [.int .u8 0] rfl rfl (cell_one_new _ _ _) (one_int_o _ _) (by decide) (by unfold maxLen; omega) (by omega) (by simp; omega) _ rfl ?_; intro gB capB wC hoC hgC hatC hltC))))
          all_goals
            go_roundw
            case rel =>
              refine ⟨j + 1, z, gB, capB, xs ++ [0], by omega, by go_num, rfl, z0, z1, rfl, ?_, ?_⟩
              · rw [List.map_append]; exact hoC
              · exact (((hbw.trans (hbA.mono hsw)).trans (hbB.mono (by omega))).alloc (by omega) _).grown hgC (by simp; omega) (own_base_o HO.out)
            case measure => go_light; simp [intOf] <;> omega
        · have qB := fun w => modK (z / 7) m (by omega) (by omega) w
          have hb0 : 0 ≤ z / 7 % m ∧ z / 7 % m < 256 := by
            have h1 := Int.emod_nonneg (z / 7) (b := m) (by omega)
            have h2 := Int.emod_lt_of_pos (z / 7) (b := m) (by omega)
            omega
          generalize z / 7 % m = r at qB hb0
          obtain ⟨r0, r1⟩ := hb0
          go_wp2_with (first | (go_at_call 21; (with_reducible refine (qA _).mono ?_); rintro e wA ⟨rfl, hbA⟩; have hsA := hbA.size) | (go_at_call 21; (with_reducible refine (qB _).mono ?_); rintro e wB ⟨rfl, hbB⟩; have hsB := hbB.size; have HO2 := Lib.hid (ownsRow_later HO.out (hbA.trans (hbB.mono hsA)))) | (at_builtin; refine wpList_append_lies _ rfl _ _ 36 rfl w1.heap.size 5 i1 (.int .u8 0) 1 1 Tryd.underlying36 hi1 hz0 hz1 hz2 rfl (by decide) _ j _ rfl (HO2.out.alloc _) ⟨wB.heap.size, 0, none⟩ 1 1 [.int .u8 r] rfl rfl (cell_one_new _ _ _) (one_int_o _ _) (by decide) (by unfold maxLen; omega) (by omega) (by simp; omega) _ rfl ?_; intro gB capB wC hoC hgC hatC hltC))
          all_goals (try (go_wp2_with (first | (go_at_call 21; (with_reducible refine (qA _).mono ?_); rintro e wA ⟨rfl, hbA⟩; have hsA := hbA.size) | (go_at_call 21; (with_reducible refine (qB _).mono ?_); rintro e wB ⟨rfl, hbB⟩; have hsB := hbB.size; have HO2 := Lib.hid (ownsRow_later HO.out (hbA.trans (hbB.mono hsA)))) | (at_builtin; refine wpList_append_lies _ rfl _ _ 36 rfl w1.heap.size 5 i1 (.int .u8 0) 1 1 Tryd.underlying36 hi1 hz0 hz1 hz2 rfl (by decide) _ j _ rfl (HO2.out.alloc _) ⟨wB.heap.size, 0, none⟩ 1 1 [.int .u8 r] rfl rfl (cell_one_new _ _ _) (one_int_o _ _) (by decide) (by unfold maxLen; omega) (by omega) (by simp; omega) _ rfl ?_; intro gB capB wC hoC hgC hatC hltC))))
          all_goals
            go_roundw
            case rel =>
              refine ⟨j + 1, z, gB, capB, xs ++ [r], by omega, by go_num, rfl, z0, z1, rfl, ?_, ?_⟩
              · rw [List.map_append]; exact hoC
              · exact (((hbw.trans (hbA.mono hsw)).trans (hbB.mono (by omega))).alloc (by omega) _).grown hgC (by simp; omega) (own_base_o HO.out)
            case measure => go_light; simp [intOf] <;> omega
        · have qB := fun w => modK (z / 7) 256 (by omega) (by omega) w
          have hb0 : 0 ≤ z / 7 % 256 ∧ z / 7 % 256 < 256 := by omega
          obtain ⟨r0, r1⟩ := hb0
          go_wp2_with (first | (go_at_call 21; (with_reducible refine (qA _).mono ?_); rintro e wA ⟨rfl, hbA⟩; have hsA := hbA.size) | (go_at_call 21; (with_reducible refine (qB _).mono ?_); rintro e wB ⟨rfl, hbB⟩; have hsB := hbB.size; have HO2 := Lib.hid (ownsRow_later HO.out (hbA.trans (hbB.mono hsA)))) | (at_builtin; refine wpList_append_lies _ rfl _ _ 36 rfl w1.heap.size 5 i1 (.int .u8 0) 1 1 Tryd.underlying36 hi1 hz0 hz1 hz2 rfl (by decide) _ j _ rfl (HO2.out.alloc _) ⟨wB.heap.size, 0, none⟩ 1 1 [.int .u8 (z / 7 % 256)] rfl rfl (cell_one_new _ _ _) (one_int_o _ _) (by decide) (by unfold maxLen; omega) (by omega) (by simp; omega) _ rfl ?_; intro gB capB wC hoC hgC hatC hltC))
          all_goals (try (go_wp2_with (first | (go_at_call 21; (with_reducible refine (qA _).mono ?_); rintro e wA ⟨rfl, hbA⟩; have hsA := hbA.size) | (go_at_call 21; (with_reducible refine (qB _).mono ?_); rintro e wB ⟨rfl, hbB⟩; have hsB := hbB.size; have HO2 := Lib.hid (ownsRow_later HO.out (hbA.trans (hbB.mono hsA)))) | (at_builtin; refine wpList_append_lies _ rfl _ _ 36 rfl w1.heap.size 5 i1 (.int .u8 0) 1 1 Tryd.underlying36 hi1 hz0 hz1 hz2 rfl (by decide) _ j _ rfl (HO2.out.alloc _) ⟨wB.heap.size, 0, none⟩ 1 1 [.int .u8 (z / 7 % 256)] rfl rfl (cell_one_new _ _ _) (one_int_o _ _) (by decide) (by unfold maxLen; omega) (by omega) (by simp; omega) _ rfl ?_; intro gB capB wC hoC hgC hatC hltC))))
          all_goals
            go_roundw
            case rel =>
              refine ⟨j + 1, z, gB, capB, xs ++ [(z / 7 % 256)], by omega, by go_num, rfl, z0, z1, rfl, ?_, ?_⟩
              · rw [List.map_append]; exact hoC
              · exact (((hbw.trans (hbA.mono hsw)).trans (hbB.mono (by omega))).alloc (by omega) _).grown hgC (by simp; omega) (own_base_o HO.out)
            case measure => go_light; simp [intOf] <;> omega
        · have qB := fun w => modK (z / 7) 256 (by omega) (by omega) w
          have hb0 : 0 ≤ z / 7 % 256 ∧ z / 7 % 256 < 256 := by omega
          obtain ⟨r0, r1⟩ := hb0
          go_wp2_with (first | (go_at_call 21; (with_reducible refine (qA _).mono ?_); rintro e wA ⟨rfl, hbA⟩; have hsA := hbA.size) | (go_at_call 21; (with_reducible refine (qB _).mono ?_); rintro e wB ⟨rfl, hbB⟩; have hsB := hbB.size; have HO2 := Lib.hid (ownsRow_later HO.out (hbA.trans (hbB.mono hsA)))) | (at_builtin; refine wpList_append_lies _ rfl _ _ 36 rfl w1.heap.size 5 i1 (.int .u8 0) 1 1 Tryd.underlying36 hi1 hz0 hz1 hz2 rfl (by decide) _ j _ rfl (HO2.out.alloc _) ⟨wB.heap.size, 0, none⟩ 1 1 [.int .u8 (z / 7 % 256)] rfl rfl (cell_one_new _ _ _) (one_int_o _ _) (by decide) (by unfold maxLen; omega) (by omega) (by simp; omega) _ rfl ?_; intro gB capB wC hoC hgC hatC hltC))
          all_goals (try (go_wp2_with (first | (go_at_call 21; (with_reducible refine (qA _).mono ?_); rintro e wA ⟨rfl, hbA⟩; have hsA := hbA.size) | (go_at_call 21; (with_reducible refine (qB _).mono ?_); rintro e wB ⟨rfl, hbB⟩; have hsB := hbB.size; have HO2 := Lib.hid (ownsRow_later HO.out (hbA.trans (hbB.mono hsA)))) | (at_builtin; refine wpList_append_lies _ rfl _ _ 36 rfl w1.heap.size 5 i1 (.int .u8 0) 1 1 Tryd.underlying36 hi1 hz0 hz1 hz2 rfl (by decide) _ j _ rfl (HO2.out.alloc _) ⟨wB.heap.size, 0, none⟩ 1 1 [.int .u8 (z / 7 % 256)] rfl rfl (cell_one_new _ _ _) (one_int_o _ _) (by decide) (by unfold maxLen; omega) (by omega) (by simp; omega) _ rfl ?_; intro gB capB wC hoC hgC hatC hltC))))
          all_goals
            go_roundw
            case rel =>
              refine ⟨j + 1, z, gB, capB, xs ++ [(z / 7 % 256)], by omega, by go_num, rfl, z0, z1, rfl, ?_, ?_⟩
              · rw [List.map_append]; exact hoC
              · exact (((hbw.trans (hbA.mono hsw)).trans (hbB.mono (by omega))).alloc (by omega) _).grown hgC (by simp; omega) (own_base_o HO.out)
            case measure => go_light; simp [intOf] <;> omega
      · obtain rfl : j = 4096 := by omega
        obtain ⟨hl, hc⟩ := own_ints HO.out
        have hcv := run_convert_bytes_arg (P := Tryd.prog) wr 36 5 Tryd.underlying36 Tryd.underlying5 g 0 _ cap xs (by omega) hc 9 Tryd.underlying9
        have HL := Lib.hid hl
        clear hl hc
        go_wp2
        go_ret
        exact ⟨_, rfl, (strSize _).trans HL.out, hb.trans (hbw.mono hb.size)⟩

/-- How many bytes noise has. -/
def nz (n : Int) : Nat := if n ≤ 0 then 0 else if n ≤ 4096 then n.toNat else 4096
theorem noise_k (k n m : Int) (w : World) : Calls Tryd.prog 77 #[.int .i64 k, .int .i64 n, .int .i64 m] w (StrPost (SizeIs (nz n)) w) := by
  unfold nz
  split
  · exact noise_1 k n m 0 w (by omega) (by omega)
  · split
    · exact noise_1 k n m n.toNat w (by omega) (by omega)
    · exact noise_1 k n m 4096 w (by omega) (by omega)
end Go.Proofs.YtmblpmaelglnpaaDoor
namespace Go.Proofs.YtmblpmaelglnpaaDoor
open Go.RowKit
set_option linter.unusedSimpArgs false
set_option linter.unusedVariables false
attribute [local go_sem] Oper.semAt_some

theorem nz_le (n : Int) (h : n ≤ 60) : nz n ≤ 60 := by
  unfold nz
  split
  · omega
  · split <;> omega
/-- At most so many bytes. -/
def SizeLe (N : Nat) (t : ByteArray) : Prop := t.size ≤ N
set_option maxRecDepth 100000 in
set_option maxHeartbeats 8000000 in
theorem input_k (a : Option Addr) (xs : List Int) (ca M : Nat) (w : World) (ha : Row .i64 w a xs) (hl : xs.length ≤ 9223372036854775807) (hM : M ≤ 1048576) :
    Calls Tryd.prog 34 #[.slice a xs.length ca, .int .i64 (M : Int)] w (StrPost (SizeLe M) w) := by
  go_enter Tryd.func34, Tryd.ntmps34
  go_wp2
  obtain ⟨W1, hW1⟩ : ∃ W1, w.alloc (.cells #[.string ⟨#[116, 104, 101, 32]⟩, .string ⟨#[113, 117, 105, 99, 107, 32]⟩, .string ⟨#[98, 114, 111, 119, 110, 32]⟩, .string ⟨#[99, 104, 101, 101, 115, 101, 32]⟩, .string ⟨#[112, 114, 101, 115, 115, 32]⟩, .string ⟨#[97, 98]⟩, .string ⟨#[97, 98, 99]⟩, .string ⟨#[10]⟩] 9) = W1 := ⟨_, rfl⟩
  have hwd : ∀ r : Nat, r < 8 → ∃ u : ByteArray, u.size ≤ 8 ∧ W1.cell? ⟨w.heap.size, r, none⟩ = some (.string u) := by
    intro r hr
    rw [← hW1]
    match r, hr with
    | 0, _ => exact ⟨⟨#[116, 104, 101, 32]⟩, by decide, by simp [go_sem]⟩
    | 1, _ => exact ⟨⟨#[113, 117, 105, 99, 107, 32]⟩, by decide, by simp [go_sem]⟩
    | 2, _ => exact ⟨⟨#[98, 114, 111, 119, 110, 32]⟩, by decide, by simp [go_sem]⟩
    | 3, _ => exact ⟨⟨#[99, 104, 101, 101, 115, 101, 32]⟩, by decide, by simp [go_sem]⟩
    | 4, _ => exact ⟨⟨#[112, 114, 101, 115, 115, 32]⟩, by decide, by simp [go_sem]⟩
    | 5, _ => exact ⟨⟨#[97, 98]⟩, by decide, by simp [go_sem]⟩
    | 6, _ => exact ⟨⟨#[97, 98, 99]⟩, by decide, by simp [go_sem]⟩
    | 7, _ => exact ⟨⟨#[10]⟩, by decide, by simp [go_sem]⟩
  have B0 : Below w.heap.size w W1 := by rw [← hW1]; exact (Below.refl _ _).alloc (Nat.le_refl _) _
  have hS : w.heap.size < W1.heap.size := by rw [← hW1]; simp
  rw [hW1]
  have HWD := Lib.hid hwd
  clear hW1 hwd
  go_loopw [5, 7] (fun o i wr => ∃ (j : Nat) (t : ByteArray), j ≤ xs.length ∧ i = .int .i64 (j : Int) ∧ o = .string t ∧ t.size ≤ M + 80 ∧ Below W1.heap.size W1 wr) (fun _ i _ => xs.length - (intOf i).toNat)
  case atStart => exact ⟨0, _, by omega, rfl, rfl, Nat.zero_le _, Below.refl _ _⟩
  case round =>
    obtain ⟨j, t, hj, rfl, rfl, ht, hb⟩ := hrel
    have hbs := hb.size
    by_cases hlt : j < xs.length ∧ t.size < M
    · obtain ⟨h1, h2⟩ := hlt
      obtain ⟨b1, o1, rfl, hb1, hc1⟩ := ((ha.later B0).later hb).at h1
      have c1 := hc1 j h1
      obtain ⟨x, hx⟩ : ∃ x, xs.getD j 0 = x := ⟨_, rfl⟩
      rw [hx] at c1
      have i0 : (0 : Int) ≤ (j : Int) := by omega
      have i1 : (j : Int) < (xs.length : Int) := by omega
      have i2 : (t.size : Int) < (M : Int) := by omega
      have qM := fun w => modK x 1073741824 (by omega) (by omega) w
      obtain ⟨k, hk⟩ : ∃ k, x % 1073741824 = k := ⟨_, rfl⟩
      rw [hk] at qM
      have k0 : 0 ≤ k := by omega
      have k1 : k < 1073741824 := by omega
      have k2 : 0 ≤ k / 8 := by omega
      have k3 : 0 ≤ k / 8 % 60 := by omega
      have k4 : k / 8 % 60 < 60 := by omega
      clear hc1 hx hk
      have hr : k % 8 = 0 ∨ k % 8 = 1 ∨ k % 8 = 2 ∨ k % 8 = 3 ∨ k % 8 = 4 ∨ k % 8 = 5 ∨ k % 8 = 6 ∨ k % 8 = 7 := by omega
      obtain ⟨n, hn⟩ : ∃ n, 1 + k / 8 % 60 = n := ⟨_, rfl⟩
      have n0 : 1 ≤ n := by omega
      have n1 : n ≤ 60 := by omega
      have z1 := nz_le n (by omega)
      have z2 := nz_le (n / 3) (by omega)
      have HR := Lib.hid hr
      clear hr
      have nn : 0 ≤ n / 3 := by omega
      rcases HR.out with hr | hr | hr | hr | hr | hr | hr | hr
      · go_wp2_with (first | (go_at_call 21; (with_reducible refine (qM _).mono ?_); rintro e wA ⟨rfl, hbA⟩; have hsA := hbA.size) | (go_at_call 77; refine (noise_k _ _ _ _).mono ?_; rintro e wB ⟨tn, rfl, hsn, hbB⟩; have hsB := hbB.size; have hsz : tn.size ≤ 60 := (by unfold SizeIs at hsn; omega); have hno : ¬ 9223372036854775807 < t.size + tn.size := (by omega)))
        go_roundw
        case rel => exact ⟨j + 1, t ++ tn, by omega, by go_num, rfl, by rw [ByteArray.size_append]; omega, hb.trans ((hbA.mono hbs).trans (hbB.mono (by omega)))⟩
        case measure => go_light; simp [intOf] <;> omega
      · go_wp2_with (first | (go_at_call 21; (with_reducible refine (qM _).mono ?_); rintro e wA ⟨rfl, hbA⟩; have hsA := hbA.size) | (go_at_call 77; refine (noise_k _ _ _ _).mono ?_; rintro e wB ⟨tn, rfl, hsn, hbB⟩; have hsB := hbB.size; have hsz : tn.size ≤ 60 := (by unfold SizeIs at hsn; omega); have hno : ¬ 9223372036854775807 < t.size + tn.size := (by omega)))
        go_roundw
        case rel => exact ⟨j + 1, t ++ tn, by omega, by go_num, rfl, by rw [ByteArray.size_append]; omega, hb.trans ((hbA.mono hbs).trans (hbB.mono (by omega)))⟩
        case measure => go_light; simp [intOf] <;> omega
      · have f1 : 0 ≤ k / 512 := by omega
        have f2 : 0 ≤ k / 512 % 200 := by omega
        have f3 : k / 512 % 200 < 200 := by omega
        have tb : (t.size : Int) ≤ 1048656 := by omega
        go_wp2_with (go_at_call 21; (with_reducible refine (qM _).mono ?_); rintro e wA ⟨rfl, hbA⟩; have hsA := hbA.size)
        have hbT : Below W1.heap.size W1 wA := hb.trans (hbA.mono hbs)
        obtain ⟨D, hD⟩ : ∃ D : Nat, n = (D : Int) := ⟨n.toNat, by omega⟩
        subst hD
        have hD10 : D ≤ 60 := by omega
        obtain ⟨E, hE⟩ : ∃ E, (t.size : Int) - 1 - k / 512 % 200 = E := ⟨_, rfl⟩
        have e1 : E ≤ (t.size : Int) - 1 := by omega
        have e2 : -201 ≤ E := by omega
        obtain ⟨wo, rfl⟩ : ∃ wo : World, wo = wr := ⟨_, rfl⟩
        clear hb hbs hbA hsA qM c1 z1 z2 nn
        (try rw [hE])
        clear hE f1 f2 f3
        go_loopw [5, 11] (fun o i wr => ∃ (m : Nat) (u : ByteArray), m ≤ D ∧ i = .int .i64 (m : Int) ∧ o = .string u ∧ u.size = t.size + m ∧ Below W1.heap.size W1 wr) (fun _ i _ => D - (intOf i).toNat)
        case atStart => exact ⟨0, t, by omega, rfl, rfl, by omega, hbT⟩
        case round =>
          clear hbT
          obtain ⟨m, u, hm, rfl, rfl, hu, hb⟩ := hrel
          have hbs := hb.size
          by_cases hmd : m < D ∧ 0 ≤ E
          · obtain ⟨m1, m2⟩ := hmd
            have v1 : (m : Int) < (D : Int) := by omega
            have v2 : 0 ≤ E + (m : Int) := by omega
            have v3 : E + (m : Int) ≤ E + (m : Int) + 1 := by omega
            have v4 : E + (m : Int) + 1 ≤ (u.size : Int) := by omega
            have v5 : 0 ≤ E + (m : Int) + 1 := by omega
            have hno : ¬ 9223372036854775807 < u.size + (u.extract (E + (m : Int)).toNat (E + (m : Int) + 1).toNat).size := by rw [ByteArray.size_extract]; omega
            have hsz : (u ++ u.extract (E + (m : Int)).toNat (E + (m : Int) + 1).toNat).size = u.size + 1 := by rw [ByteArray.size_append, ByteArray.size_extract]; omega
            have HSZ := Lib.hid hsz
            clear hsz
            go_wp2
            go_roundw
            case rel => exact ⟨m + 1, _, by omega, by go_num, rfl, by rw [HSZ.out]; omega, hb⟩
            case measure => go_light; simp [intOf] <;> omega
          · have hx : ¬ m < D ∨ (m < D ∧ ¬ 0 ≤ E) := by omega
            rcases hx with m1 | ⟨m1, m2⟩
            · have v1 : ¬ (m : Int) < (D : Int) := by omega
              go_wp2
              go_roundw
              case rel => exact ⟨j + 1, u, by omega, by go_num, rfl, by omega, hb⟩
              case measure => go_light; simp [intOf] <;> omega
            · have v1 : (m : Int) < (D : Int) := by omega
              go_wp2
              go_roundw
              case rel => exact ⟨j + 1, u, by omega, by go_num, rfl, by omega, hb⟩
              case measure => go_light; simp [intOf] <;> omega
      · have f1 : 0 ≤ k / 512 := by omega
        have f2 : 0 ≤ k / 512 % 200 := by omega
        have f3 : k / 512 % 200 < 200 := by omega
        have tb : (t.size : Int) ≤ 1048656 := by omega
        go_wp2_with (go_at_call 21; (with_reducible refine (qM _).mono ?_); rintro e wA ⟨rfl, hbA⟩; have hsA := hbA.size)
        have hbT : Below W1.heap.size W1 wA := hb.trans (hbA.mono hbs)
        obtain ⟨D, hD⟩ : ∃ D : Nat, n = (D : Int) := ⟨n.toNat, by omega⟩
        subst hD
        have hD10 : D ≤ 60 := by omega
        obtain ⟨E, hE⟩ : ∃ E, (t.size : Int) - 1 - k / 512 % 200 = E := ⟨_, rfl⟩
        have e1 : E ≤ (t.size : Int) - 1 := by omega
        have e2 : -201 ≤ E := by omega
        obtain ⟨wo, rfl⟩ : ∃ wo : World, wo = wr := ⟨_, rfl⟩
        clear hb hbs hbA hsA qM c1 z1 z2 nn
        (try rw [hE])
        clear hE f1 f2 f3
        go_loopw [5, 11] (fun o i wr => ∃ (m : Nat) (u : ByteArray), m ≤ D ∧ i = .int .i64 (m : Int) ∧ o = .string u ∧ u.size = t.size + m ∧ Below W1.heap.size W1 wr) (fun _ i _ => D - (intOf i).toNat)
        case atStart => exact ⟨0, t, by omega, rfl, rfl, by omega, hbT⟩
        case round =>
          clear hbT
          obtain ⟨m, u, hm, rfl, rfl, hu, hb⟩ := hrel
          have hbs := hb.size
          by_cases hmd : m < D ∧ 0 ≤ E
          · obtain ⟨m1, m2⟩ := hmd
            have v1 : (m : Int) < (D : Int) := by omega
            have v2 : 0 ≤ E + (m : Int) := by omega
            have v3 : E + (m : Int) ≤ E + (m : Int) + 1 := by omega
            have v4 : E + (m : Int) + 1 ≤ (u.size : Int) := by omega
            have v5 : 0 ≤ E + (m : Int) + 1 := by omega
            have hno : ¬ 9223372036854775807 < u.size + (u.extract (E + (m : Int)).toNat (E + (m : Int) + 1).toNat).size := by rw [ByteArray.size_extract]; omega
            have hsz : (u ++ u.extract (E + (m : Int)).toNat (E + (m : Int) + 1).toNat).size = u.size + 1 := by rw [ByteArray.size_append, ByteArray.size_extract]; omega
            have HSZ := Lib.hid hsz
            clear hsz
            go_wp2
            go_roundw
            case rel => exact ⟨m + 1, _, by omega, by go_num, rfl, by rw [HSZ.out]; omega, hb⟩
            case measure => go_light; simp [intOf] <;> omega
          · have hx : ¬ m < D ∨ (m < D ∧ ¬ 0 ≤ E) := by omega
            rcases hx with m1 | ⟨m1, m2⟩
            · have v1 : ¬ (m : Int) < (D : Int) := by omega
              go_wp2
              go_roundw
              case rel => exact ⟨j + 1, u, by omega, by go_num, rfl, by omega, hb⟩
              case measure => go_light; simp [intOf] <;> omega
            · have v1 : (m : Int) < (D : Int) := by omega
              go_wp2
              go_roundw
              case rel => exact ⟨j + 1, u, by omega, by go_num, rfl, by omega, hb⟩
              case measure => go_light; simp [intOf] <;> omega
      · have f1 : 0 ≤ k / 512 := by omega
        have f2 : 0 ≤ k / 512 % 200 := by omega
        have f3 : k / 512 % 200 < 200 := by omega
        have tb : (t.size : Int) ≤ 1048656 := by omega
        go_wp2_with (go_at_call 21; (with_reducible refine (qM _).mono ?_); rintro e wA ⟨rfl, hbA⟩; have hsA := hbA.size)
        have hbT : Below W1.heap.size W1 wA := hb.trans (hbA.mono hbs)
        obtain ⟨D, hD⟩ : ∃ D : Nat, n = (D : Int) := ⟨n.toNat, by omega⟩
        subst hD
        have hD10 : D ≤ 60 := by omega
        obtain ⟨E, hE⟩ : ∃ E, (t.size : Int) - 1 - k / 512 % 200 = E := ⟨_, rfl⟩
        have e1 : E ≤ (t.size : Int) - 1 := by omega
        have e2 : -201 ≤ E := by omega
        obtain ⟨wo, rfl⟩ : ∃ wo : World, wo = wr := ⟨_, rfl⟩
        clear hb hbs hbA hsA qM c1 z1 z2 nn
        (try rw [hE])
        clear hE f1 f2 f3
        go_loopw [5, 11] (fun o i wr => ∃ (m : Nat) (u : ByteArray), m ≤ D ∧ i = .int .i64 (m : Int) ∧ o = .string u ∧ u.size = t.size + m ∧ Below W1.heap.size W1 wr) (fun _ i _ => D - (intOf i).toNat)
        case atStart => exact ⟨0, t, by omega, rfl, rfl, by omega, hbT⟩
        case round =>
          clear hbT
          obtain ⟨m, u, hm, rfl, rfl, hu, hb⟩ := hrel
          have hbs := hb.size
          by_cases hmd : m < D ∧ 0 ≤ E
          · obtain ⟨m1, m2⟩ := hmd
            have v1 : (m : Int) < (D : Int) := by omega
            have v2 : 0 ≤ E + (m : Int) := by omega
            have v3 : E + (m : Int) ≤ E + (m : Int) + 1 := by omega
            have v4 : E + (m : Int) + 1 ≤ (u.size : Int) := by omega
            have v5 : 0 ≤ E + (m : Int) + 1 := by omega
            have hno : ¬ 9223372036854775807 < u.size + (u.extract (E + (m : Int)).toNat (E + (m : Int) + 1).toNat).size := by rw [ByteArray.size_extract]; omega
            have hsz : (u ++ u.extract (E + (m : Int)).toNat (E + (m : Int) + 1).toNat).size = u.size + 1 := by rw [ByteArray.size_append, ByteArray.size_extract]; omega
            have HSZ := Lib.hid hsz
            clear hsz
            go_wp2
            go_roundw
            case rel => exact ⟨m + 1, _, by omega, by go_num, rfl, by rw [HSZ.out]; omega, hb⟩
            case measure => go_light; simp [intOf] <;> omega
          · have hx : ¬ m < D ∨ (m < D ∧ ¬ 0 ≤ E) := by omega
            rcases hx with m1 | ⟨m1, m2⟩
            · have v1 : ¬ (m : Int) < (D : Int) := by omega
              go_wp2
              go_roundw
              case rel => exact ⟨j + 1, u, by omega, by go_num, rfl, by omega, hb⟩
              case measure => go_light; simp [intOf] <;> omega
            · have v1 : (m : Int) < (D : Int) := by omega
              go_wp2
              go_roundw
              case rel => exact ⟨j + 1, u, by omega, by go_num, rfl, by omega, hb⟩
              case measure => go_light; simp [intOf] <;> omega
      · go_wp2_with (first | (go_at_call 21; (with_reducible refine (qM _).mono ?_); rintro e wA ⟨rfl, hbA⟩; have hsA := hbA.size) | (go_at_call 77; refine (noise_k _ _ _ _).mono ?_; rintro e wB ⟨tn, rfl, hsn, hbB⟩; have hsB := hbB.size; have hsz : tn.size ≤ 60 := (by unfold SizeIs at hsn; omega); have hno : ¬ 9223372036854775807 < t.size + tn.size := (by omega)))
        go_roundw
        case rel => exact ⟨j + 1, t ++ tn, by omega, by go_num, rfl, by rw [ByteArray.size_append]; omega, hb.trans ((hbA.mono hbs).trans (hbB.mono (by omega)))⟩
        case measure => go_light; simp [intOf] <;> omega
      · go_wp2_with (first | (go_at_call 21; (with_reducible refine (qM _).mono ?_); rintro e wA ⟨rfl, hbA⟩; have hsA := hbA.size) | (go_at_call 77; refine (noise_k _ _ _ _).mono ?_; rintro e wB ⟨tn, rfl, hsn, hbB⟩; have hsB := hbB.size; have hsz : tn.size ≤ 60 := (by unfold SizeIs at hsn; omega); have hno : ¬ 9223372036854775807 < t.size + tn.size := (by omega)))
        go_roundw
        case rel => exact ⟨j + 1, t ++ tn, by omega, by go_num, rfl, by rw [ByteArray.size_append]; omega, hb.trans ((hbA.mono hbs).trans (hbB.mono (by omega)))⟩
        case measure => go_light; simp [intOf] <;> omega
      · go_wp2_with (go_at_call 21; (with_reducible refine (qM _).mono ?_); rintro e wA ⟨rfl, hbA⟩; have hsA := hbA.size)
        have hbT : Below W1.heap.size W1 wA := hb.trans (hbA.mono hbs)
        have hdiv : n / 6 ≤ 10 := by omega
        have hdi0 : 0 ≤ n / 6 := by omega
        obtain ⟨D, hD⟩ : ∃ D : Nat, n / 6 = (D : Int) := ⟨(n / 6).toNat, by omega⟩
        have hD10 : D ≤ 10 := by omega
        have HD := Lib.hid hD
        clear hD
        obtain ⟨wo, rfl⟩ : ∃ wo : World, wo = wr := ⟨_, rfl⟩
        clear hb hbs hbA hsA qM c1 hr
        go_loopw [5, 12] (fun o i wr => ∃ (m : Nat) (u : ByteArray), m ≤ D ∧ i = .int .i64 (m : Int) ∧ o = .string u ∧ u.size ≤ t.size + 8 * m ∧ Below W1.heap.size W1 wr) (fun _ i _ => D - (intOf i).toNat)
        case atStart => exact ⟨0, t, by omega, rfl, rfl, by omega, hbT⟩
        case round =>
          clear hbT
          obtain ⟨m, u, hm, rfl, rfl, hu, hb⟩ := hrel
          have hbs := hb.size
          by_cases hmd : m < D
          · have v1 : (m : Int) < n / 6 := by rw [HD.out]; omega
            have v2 : (0 : Int) ≤ (m : Int) * (m : Int) := Int.mul_nonneg (by omega) (by omega)
            have v3 : (m : Int) * (m : Int) ≤ 100 := by
              have h10 : m ≤ 10 := by omega
              have : m * m ≤ 10 * 10 := Nat.mul_le_mul h10 h10
              have h2 : ((m * m : Nat) : Int) = (m : Int) * (m : Int) := by simp
              omega
            have qW := fun w => modK (k / 8 + (m : Int) * (m : Int)) 8 (by omega) (by omega) w
            obtain ⟨r, hrr⟩ : ∃ r : Nat, (k / 8 + (m : Int) * (m : Int)) % 8 = (r : Int) := ⟨((k / 8 + (m : Int) * (m : Int)) % 8).toNat, by omega⟩
            have hr8 : r < 8 := by omega
            rw [hrr] at qW
            clear hrr
            obtain ⟨sw, hsw, hcw⟩ := HWD.out r hr8
            have r0 : (0 : Int) ≤ (r : Int) := by omega
            have r1 : (r : Int) < 8 := by omega
            have hno : ¬ 9223372036854775807 < u.size + sw.size := by omega
            go_wp2_with (go_at_call 21; (with_reducible refine (qW _).mono ?_); rintro e wC ⟨rfl, hbC⟩; have hsC := hbC.size; have hcw2 := ((hb.trans (hbC.mono hbs)).cell (p := ⟨w.heap.size, r, none⟩) hS).trans hcw)
            go_roundw
            case rel => exact ⟨m + 1, u ++ sw, by omega, by go_num, rfl, by rw [ByteArray.size_append]; omega, hb.trans (hbC.mono hbs)⟩
            case measure => go_light; simp [intOf] <;> omega
          · have v1 : ¬ (m : Int) < n / 6 := by rw [HD.out]; omega
            go_wp2
            go_roundw
            case rel => exact ⟨j + 1, u, by omega, by go_num, rfl, by omega, hb⟩
            case measure => go_light; simp [intOf] <;> omega
    · have ht2 : ¬ j < xs.length ∨ (j < xs.length ∧ ¬ t.size < M) := by omega
      have hb3 := hb.size
      have hB := B0.trans (hb.mono (by omega))
      rcases ht2 with g1 | ⟨g1, g2⟩
      · go_wp2
        all_goals go_ret
        all_goals exact ⟨_, rfl, by unfold SizeLe; (try rw [ByteArray.size_extract]); omega, hB⟩
      · have i2 : ¬ (t.size : Int) < (M : Int) := by omega
        have i1 : (j : Int) < (xs.length : Int) := by omega
        go_wp2
        all_goals go_ret
        all_goals exact ⟨_, rfl, by unfold SizeLe; (try rw [ByteArray.size_extract]); omega, hB⟩
end Go.Proofs.YtmblpmaelglnpaaDoor
