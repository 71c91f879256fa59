/-
  The output of sequences (a builder and a string in one struct): its methods, walked.
-/
import Derived.Test.YtmblpmaelglnpaaDoorRows
import Derived.Test.YtmblpmaelglnpaaDoorSeqPlain2
import Derived.Test.YtmblpmaelglnpaaDoorOwnM
import Derived.Test.YtmblpmaelglnpaaDoorGKit
import Derived.Test.YtmblpmaelglnpaaDoorRoundDraw
import Derived.Test.YtmblpmaelglnpaaDoorGWin
import Derived.Test.YtmblpmaelglnpaaDoorGBase
import Derived.Deep.Light
import Derived.Shelf.Abstract
import Derived.Shelf.RegionOpen
import Derived.OwnWalkIn
import Derived.TacticsInMore
import Derived.LoopNIn
import Derived.LoopIn
import Derived.Lib.FrozenHead2
import Derived.Lib.UnsafeStr
import Derived.Lib.Builder
import Derived.Shelf.RegionOpenPlain
import Derived.Laws.Externs
import Derived.Maps.OwnIn
import Derived.Outline
import Derived.IntWalk
import Derived.WalkMore
namespace Go.Proofs.YtmblpmaelglnpaaDoor
open Go.RowKit
set_option linter.unusedSimpArgs false
set_option linter.unusedVariables false
open Go.Shelf
attribute [local go_sem] Oper.semAt_some

/-- The struct at block B: its bytes so far, in a row of its own from block 'base' on; the string behind it. -/
def OSt (w : World) (B base : Nat) (V : Value) (bs : List Int) (bf : ByteArray) : Prop :=
  B < base ∧ (∃ p, (p = .pointer none ∨ p = .pointer (some ⟨B, 0, none⟩)) ∧ Blk w B 83 [p, V, .string bf]) ∧ w.ownsRowF base 5 1 V bs.length (bs.map (Value.int .u8)) ∧ (V = .slice none 0 0 ↔ bs = [])
/-- Nothing turns but the struct and the row of its own. -/
def Oth (B : Nat) (V : Value) (k : Nat) : Prop := k = B ∨ V.ownBlock = some k
theorem But.of_grown {S : Nat → Prop} {w w' : World} {row : Option Nat} (h : w.grownBy w' row) (hS : ∀ k, row = some k → S k) : But S w w' :=
  ⟨h.os, h.tape, h.output, h.size, fun k o hn hk => (h.block k (Array.getElem?_eq_some_iff.1 hk).1 (fun e => hn (hS k e.symm))).trans hk⟩
theorem But.rowF {S : Nat → Prop} {X Y : World} (h : But S X Y) {base : Nat} {e : TypeId} {size : Nat} {v : Value} {n : Nat} {xs : List Value} (ho : X.ownsRowF base e size v n xs) (hS : ∀ k, v.ownBlock = some k → ¬ S k) : Y.ownsRowF base e size v n xs := by
  refine ⟨ho.1, ?_⟩
  rcases ho.2 with hn | ⟨g, cap, cur, fz, rfl, hb, hg, r⟩
  · exact .inl hn
  · exact .inr ⟨g, cap, cur, fz, rfl, hb, h.block g _ (hS g rfl) hg, r⟩
theorem OSt.ne {w : World} {B base : Nat} {V : Value} {bs : List Int} {bf : ByteArray} (h : OSt w B base V bs bf) : ∀ k, V.ownBlock = some k → k ≠ B := fun k hk he => by
  have := (h.2.2.1.lt k hk).1
  have := h.1
  omega
/-- Other blocks may turn, and new ones come. -/
theorem OSt.but {S : Nat → Prop} {w w' : World} {B base : Nat} {V : Value} {bs : List Int} {bf : ByteArray} (h : OSt w B base V bs bf) (hb : But S w w') (h1 : ¬ S B) (h2 : ∀ k, V.ownBlock = some k → ¬ S k) : OSt w' B base V bs bf := by
  obtain ⟨g1, ⟨p, hp, hB⟩, g3, g4⟩ := h
  exact ⟨g1, ⟨p, hp, hb.block _ _ h1 hB⟩, hb.rowF g3 h2, g4⟩
theorem OSt.later {w w' : World} {B base : Nat} {V : Value} {bs : List Int} {bf : ByteArray} (h : OSt w B base V bs bf) (hb : Below w.heap.size w w') : OSt w' B base V bs bf :=
  h.but (But.of_below (S := fun _ => False) hb) (fun h => h) (fun _ _ h => h)
theorem OSt.cells {w : World} {B base : Nat} {V : Value} {bs : List Int} {bf : ByteArray} (h : OSt w B base V bs bf) : w.cell? ⟨B, 1, none⟩ = some V ∧ w.cell? ⟨B, 2, none⟩ = some (.string bf) ∧ B < w.heap.size := by
  obtain ⟨g1, ⟨p, hp, hB⟩, g3, g4⟩ := h
  exact ⟨hB.cell 1, hB.cell 2, hB.lt⟩
theorem but_set1 (B : Nat) (w : World) (j : Nat) (v : Value) : But (fun k => k = B) w (w.setCell ⟨B, j, none⟩ v) := But.setCell (S := fun k => k = B) w v rfl
theorem But.mono' {S S' : Nat → Prop} {w w' : World} (h : But S w w') (hs : ∀ k, S k → S' k) : But S' w w' := ⟨h.os, h.tape, h.output, h.size, fun k o hn hk => h.block k o (fun g => hn (hs k g)) hk⟩
theorem rowF_slice {w : World} {base : Nat} {e : TypeId} {z : Nat} {v : Value} {n : Nat} {xs : List Value} (h : w.ownsRowF base e z v n xs) : ∃ a cap, v = .slice a n cap := by
  rcases h.2 with ⟨rfl, h0⟩ | ⟨g, cap, cur, fz, rfl, _⟩
  · exact ⟨none, 0, by rw [h0]⟩
  · exact ⟨_, cap, rfl⟩
set_option maxRecDepth 100000 in
theorem copy_p (w : World) (B base : Nat) (V : Value) (bs : List Int) (bf : ByteArray) (h : OSt w B base V bs bf) :
    Calls Tryd.prog 96 #[.pointer (some ⟨B, 0, none⟩)] w fun e w' => e = .returned (.tuple #[]) ∧ OSt w' B base V bs bf ∧ But (fun k => k = B) w w' := by
  have hne := h.ne
  obtain ⟨g1, ⟨p, hp, hB⟩, g3, g4⟩ := h
  have c0 := hB.cell 0
  have f0 := hB.frozen 0
  have lB := hB.lt
  rcases hp with rfl | rfl
  · have c0' : w.cell? ⟨B, 0, none⟩ = some (.pointer none) := c0
    have hsh : w.shape? B = some (83, 3) := by unfold World.shape?; rw [show w.heap[B]? = some (.cells #[.pointer none, V, .string bf] 83 (0, 0)) from hB]; rfl
    have hj : (Tryd.prog.info? 81).map (·.size) = some 2 := by kernel_rfl
    obtain ⟨j, hj1, hj2⟩ := Option.map_eq_some_iff.1 hj
    go_enter Tryd.func96, Tryd.ntmps96
    go_wp2
    rw [Lib.run_to_unsafe w ⟨B, 0, none⟩ Tryd.underlying79 Tryd.underlying141 hj1 (by rw [hj2]; decide) hsh (Nat.zero_lt_succ 2)]
    simp only [Result.andThen]
    rw [Oper.upon_value]
    go_wp2
    rw [run_callFunc_extern Tryd.func115 (by kernel_rfl) (by kernel_rfl) (by kernel_rfl) (e := Extern.AbiNoEscape.same) (by kernel_rfl)]
    rw [Lib.run_noEscape]
    simp only [Result.andThen]
    rw [Oper.upon_value]
    go_wp2
    rw [Lib.run_from_unsafe w ⟨B, 0, none⟩ Tryd.underlying141 Tryd.underlying79 hj1 hsh (by kernel_rfl)]
    simp only [Result.andThen]
    rw [Oper.upon_value]
    go_wp2
    go_end0
    refine ⟨rfl, ⟨g1, ⟨_, .inr rfl, hB.set 0 _⟩, (but_set1 B w 0 _).rowF g3 (fun k hk => hne k hk), g4⟩, but_set1 B w 0 _⟩
  · have c0' : w.cell? ⟨B, 0, none⟩ = some (.pointer (some ⟨B, 0, none⟩)) := c0
    have hj : (Tryd.prog.info? 81).map (·.size) = some 2 := by kernel_rfl
    obtain ⟨j, hj1, hj2⟩ := Option.map_eq_some_iff.1 hj
    go_enter Tryd.func96, Tryd.ntmps96
    go_wp2
    rw [Lib.run_neq_ptr_same w _ Tryd.underlying79 hj1]
    go_wp2
    go_end0
    exact ⟨rfl, ⟨g1, ⟨_, .inr rfl, hB⟩, g3, g4⟩, But.of_below (Below.refl _ _)⟩
set_option maxRecDepth 100000 in
theorem len_p (w : World) (B base : Nat) (V : Value) (bs : List Int) (bf : ByteArray) (h : OSt w B base V bs bf) :
    Calls Tryd.prog 97 #[.pointer (some ⟨B, 0, none⟩)] w fun e w' => e = .returned (.int .i64 (bs.length : Int)) ∧ w' = w := by
  obtain ⟨g1, ⟨p, hp, hB⟩, g3, g4⟩ := h
  have c1 := hB.cell 1
  have hV : ∃ a cap, V = .slice a bs.length cap := by
    rcases g3.2 with ⟨rfl, h⟩ | ⟨g, cap, cur, fz, rfl, _⟩
    · exact ⟨none, 0, by rw [h]⟩
    · exact ⟨_, cap, rfl⟩
  obtain ⟨a, cap, rfl⟩ := hV
  have c1' : w.cell? ⟨B, 1, none⟩ = some (.slice a bs.length cap) := c1
  go_enter Tryd.func97, Tryd.ntmps97
  go_wp2
  go_ret
  exact ⟨rfl, rfl⟩
set_option maxRecDepth 100000 in
set_option maxHeartbeats 4000000 in
theorem ws_p (w : World) (B base : Nat) (V : Value) (bs : List Int) (bf s : ByteArray) (h : OSt w B base V bs bf) (hb : base ≤ w.heap.size) (hl : bs.length + s.size ≤ 140737488355328) :
    Calls Tryd.prog 62 #[.pointer (some ⟨B, 0, none⟩), .string s] w fun e w' => ∃ V', e = .returned (.tuple #[.int .i64 (s.size : Int), .nilIface]) ∧ OSt w' B base V' (bs ++ bI s) bf ∧ But (Oth B V) w w' := by
  have hne := h.ne
  obtain ⟨i1, hi1, hz0, hz1, hz2⟩ := info_parts infoU8k
  have qC := copy_p w B base V bs bf h
  go_enter Tryd.func62, Tryd.ntmps62
  go_wp2_with (first | (go_at_call 96; refine qC.mono ?_; rintro en w1 ⟨rfl, hO, hb1⟩; have hS1 := hb1.size; obtain ⟨g1, ⟨p, hp, hB⟩, g3, g4⟩ := hO; have c1 : w1.cell? ⟨B, 1, none⟩ = some V := hB.cell 1) | (at_builtin; refine Lib.wpList_append_own_stringF _ rfl _ _ 36 9 rfl base 5 i1 Tryd.underlying36 Tryd.underlying9 hi1 hz0 hz1 hz2 V bs.length _ rfl g3 s rfl (by unfold maxLen; omega) (by omega) (by omega) ?_; intro V2 w2 hO2 hg2 hn2; obtain ⟨a2, k2, rfl⟩ := rowF_slice hO2; have hb2 := But.of_grown (S := fun k => V.ownBlock = some k) hg2 (fun k hk => hk); have hB2 := hb2.block _ _ (fun e => hne B e rfl) hB; have hB2' : Blk w2 B 83 [p, V, .string bf] := hB2; have c2 := hB2'.cell 1; have f2 := hB2'.frozen 1; have l2 := hB2'.lt; have d2 : w2.cell? ⟨B, 1, none⟩ = some V := c2))
  refine bodyPost_ret (v := .tuple #[.int .i64 (s.size : Int), .nilIface]) (by simp [results, Tryd.results62, go_sem]) rfl ?_
  have hne2 : ∀ k, (Value.slice a2 (bs.length + s.size) k2).ownBlock = some k → k ≠ B := fun k hk he => by
    have := (hO2.lt k hk).1
    omega
  refine ⟨_, rfl, ⟨g1, ⟨p, hp, hB2'.set 1 _⟩, ?_, ?_⟩, ((hb1.mono' (fun k hk => .inl hk)).trans (hb2.mono' (fun k hk => .inr hk))).trans ((but_set1 B _ 1 _).mono' (fun k hk => .inl hk))⟩
  · have := (but_set1 B w2 1 (.slice a2 (bs.length + s.size) k2)).rowF hO2 (fun k hk => hne2 k hk)
    rw [List.length_append, bI_len, List.map_append, ← strCells_bI]
    exact this
  · rw [hn2, g4]
    constructor
    · rintro ⟨h1, h2⟩
      rw [h1, List.nil_append]
      exact List.eq_nil_of_length_eq_zero (by rw [bI_len]; exact h2)
    · intro h
      have := congrArg List.length h
      rw [List.length_append, bI_len] at this
      simp only [List.length_nil] at this
      exact ⟨List.eq_nil_of_length_eq_zero (by omega), by omega⟩
set_option maxRecDepth 100000 in
set_option maxHeartbeats 4000000 in
theorem wb_p (w : World) (B base : Nat) (V : Value) (bs : List Int) (bf : ByteArray) (x : Int) (h : OSt w B base V bs bf) (hb : base ≤ w.heap.size) (hl : bs.length + 1 ≤ 140737488355328) :
    Calls Tryd.prog 63 #[.pointer (some ⟨B, 0, none⟩), .int .u8 x] w fun e w' => ∃ V', e = .returned .nilIface ∧ OSt w' B base V' (bs ++ [x]) bf ∧ But (Oth B V) w w' := by
  have hne := h.ne
  obtain ⟨i1, hi1, hz0, hz1, hz2⟩ := info_parts infoU8k
  have qC := copy_p w B base V bs bf h
  go_enter Tryd.func63, Tryd.ntmps63
  go_wp2_with (first | (go_at_call 96; refine qC.mono ?_; rintro en w1 ⟨rfl, hO, hb1⟩; have hS1 := hb1.size; obtain ⟨g1, ⟨p, hp, hB⟩, g3, g4⟩ := hO; have c1 : w1.cell? ⟨B, 1, none⟩ = some V := hB.cell 1) | (at_builtin; refine wpList_append_ownF _ rfl _ _ 36 rfl base 5 i1 (.int .u8 0) 1 1 Tryd.underlying36 hi1 hz0 hz1 hz2 rfl (by decide) V bs.length _ rfl (g3.alloc _) ⟨w1.heap.size, 0, none⟩ 1 1 [.int .u8 x] rfl rfl (cell_one_new _ _ _) (one_int_o _ _) (by unfold maxLen; omega) (by omega) (by simp; omega) ?_; intro V2 w2 hO2 hg2 hn2; obtain ⟨a2, k2, rfl⟩ := rowF_slice hO2; have hb2 := But.of_grown (S := fun k => V.ownBlock = some k) hg2 (fun k hk => hk); have hB2 := hb2.block _ _ (fun e => hne B e rfl) (hB.alloc _); have hB2' : Blk w2 B 83 [p, V, .string bf] := hB2; have c2 := hB2'.cell 1; have f2 := hB2'.frozen 1; have l2 := hB2'.lt; have d2 : w2.cell? ⟨B, 1, none⟩ = some V := c2))
  refine bodyPost_ret (v := .nilIface) (by simp [results, Tryd.results63, go_sem]) rfl ?_
  have hne2 : ∀ k, (Value.slice a2 (bs.length + 1) k2).ownBlock = some k → k ≠ B := fun k hk he => by
    have := (hO2.lt k hk).1
    omega
  refine ⟨_, rfl, ⟨g1, ⟨p, hp, hB2'.set 1 _⟩, ?_, ?_⟩, (((hb1.mono' (fun k hk => .inl hk)).trans (But.of_below ((Below.refl _ _).alloc (Nat.le_refl _) _))).trans (hb2.mono' (fun k hk => .inr hk))).trans ((but_set1 B _ 1 _).mono' (fun k hk => .inl hk))⟩
  · have := (but_set1 B w2 1 (.slice a2 (bs.length + 1) k2)).rowF hO2 (fun k hk => hne2 k hk)
    rw [List.length_append, List.map_append]
    exact this
  · rw [hn2]
    simp

/-- The bytes as they lie. -/
def u8s (bs : List Int) : List UInt8 := bs.map fun n => UInt8.ofNat n.toNat
theorem u8s_nat (bs : List Int) (hr : ∀ x ∈ bs, 0 ≤ x ∧ x ≤ 255) : (u8s bs).map (fun b => Value.int .u8 (b.toNat : Int)) = bs.map (Value.int .u8) := by
  unfold u8s
  rw [List.map_map]
  apply List.map_congr_left
  intro x hx
  obtain ⟨h1, h2⟩ := hr x hx
  simp only [Function.comp]
  rw [UInt8.toNat_ofNat_of_lt' (by simp [UInt8.size]; omega)]
  congr 1
  omega
theorem rowF_freeze {w : World} {base : Nat} {e : TypeId} {g cap : Nat} {bs : List Value} (h : w.ownsRowF base e 1 (.slice (some ⟨g, 0, none⟩) bs.length cap) bs.length bs) : (w.freeze ⟨g, 0, none⟩ bs.length).ownsRowF base e 1 (.slice (some ⟨g, 0, none⟩) bs.length cap) bs.length bs ∧ But (fun k => k = g) w (w.freeze ⟨g, 0, none⟩ bs.length) := by
  unfold World.freeze
  split
  · exact ⟨h, But.of_below (Below.refl _ _)⟩
  · refine ⟨⟨h.1, ?_⟩, ⟨rfl, rfl, rfl, by simp, fun k o hn hk => ?_⟩⟩
    · rcases h.2 with ⟨hv, _⟩ | ⟨g', cap', cur, fz, hv, hbg, hg, hfz, rest⟩
      · cases hv
      · injection hv with ha _ hcap
        injection ha with ha
        injection ha with hgg _ _
        subst hgg
        subst hcap
        obtain ⟨lo, hi⟩ := fz
        refine .inr ⟨g, _, cur, (if lo == hi then (0, 0 + bs.length) else (min lo 0, max hi (0 + bs.length))), rfl, hbg, ?_, ?_, rest⟩
        · simp [Array.getElem?_modify, hg]
        · simp only at hfz
          split <;> simp <;> omega
    · simp only [Array.getElem?_modify]
      rw [if_neg (fun e => hn e.symm)]
      exact hk
set_option maxRecDepth 100000 in
set_option maxHeartbeats 4000000 in
theorem str_p (w : World) (B base : Nat) (V : Value) (bs : List Int) (bf : ByteArray) (h : OSt w B base V bs bf) (hr : ∀ x ∈ bs, 0 ≤ x ∧ x ≤ 255) (hl : bs.length ≤ 140737488355328) :
    Calls Tryd.prog 65 #[.pointer (some ⟨B, 0, none⟩)] w fun e w' => e = .returned (.string (strOfNums bs)) ∧ OSt w' B base V bs bf ∧ But (Oth B V) w w' := by
  have hne := h.ne
  have hO := h
  obtain ⟨g1, ⟨p, hp, hB⟩, g3, g4⟩ := h
  have c1 : w.drew.cell? ⟨B, 1, none⟩ = some V := hB.cell 1
  by_cases hb : bs = []
  · obtain rfl := g4.2 hb
    subst hb
    have hSD : (Builtin.unsafeSliceData_ #[36] 121 #[.slice none 0 0]).run Tryd.prog w.drew = .ok (.pointer none) w.drew := rfl
    have hUS := Lib.run_unsafeString_none (P := Tryd.prog) w.drew 121 3 9 none
    go_enter Tryd.func65, Tryd.ntmps65
    go_wp2
    go_region
    all_goals (go_wp2; go_ret; exact ⟨rfl, hO.later ((Below.refl _ _).drew), But.of_below (Below.refl _ _).drew⟩)
  · obtain ⟨g, cap, cur, fz, rfl, hbg, hg, hfz, hnc, hcm, hcs, htake⟩ : ∃ g cap cur fz, V = .slice (some ⟨g, 0, none⟩) bs.length cap ∧ base ≤ g ∧ w.heap[g]? = some (.cells cur 5 fz) ∧ fz.2 ≤ bs.length * 1 ∧ bs.length ≤ cap ∧ cap ≤ maxLen ∧ cur.size = cap * 1 ∧ cur.toList.take (bs.length * 1) = bs.map (Value.int .u8) := by
      rcases g3.2 with ⟨hv, _⟩ | ⟨g, cap, cur, fz, hv, r⟩
      · exact absurd (g4.1 hv) hb
      · exact ⟨g, cap, cur, fz, hv, r⟩
    have hb0 : bs.length ≠ 0 := fun h => hb (List.eq_nil_of_length_eq_zero h)
    have hul : (u8s bs).length = bs.length := by unfold u8s; rw [List.length_map]
    have hSD : (Builtin.unsafeSliceData_ #[36] 121 #[.slice (some ⟨g, 0, none⟩) bs.length cap]).run Tryd.prog w.drew = .ok (.pointer (some ⟨g, 0, none⟩)) w.drew :=
      Lib.run_unsafeSliceData_row _ _ _ _ _ _ (by omega)
    have hUS : (Builtin.unsafeString_ #[121, 3] 9 #[.pointer (some ⟨g, 0, none⟩), .int .i64 bs.length]).run Tryd.prog w.drew = .ok (.string (strOfNums bs)) (w.drew.freeze ⟨g, 0, none⟩ bs.length) := by
      have := Lib.run_unsafeString_row (P := Tryd.prog) w.drew 121 3 9 5 Tryd.underlying121 (by kernel_rfl) g cur.size (by have hg' : w.drew.heap[g]? = some (.cells cur 5 fz) := hg; simp [World.shape?, hg']) (u8s bs) (fun e => hb0 (by rw [← hul, e]; rfl)) (by omega) (by unfold maxLen at hcm; omega) ?_
      · rw [hul] at this
        exact this
      · intro j x hx
        refine g3.cells (g := g) rfl j _ ?_
        rw [← u8s_nat bs hr, List.getElem?_map, hx]
        rfl
    have hFr := rowF_freeze (w := w.drew) (bs := bs.map (Value.int .u8)) (g := g) (cap := cap) (base := base) (e := 5) (by rw [List.length_map]; exact g3)
    rw [List.length_map] at hFr
    obtain ⟨hF1, hF2⟩ := hFr
    have hkeep : OSt (w.drew.freeze ⟨g, 0, none⟩ bs.length) B base (.slice (some ⟨g, 0, none⟩) bs.length cap) bs bf :=
      ⟨g1, ⟨p, hp, hF2.block _ _ (fun e => hne g rfl e.symm) hB⟩, hF1, g4⟩
    have hbut : But (Oth B (.slice (some ⟨g, 0, none⟩) bs.length cap)) w (w.drew.freeze ⟨g, 0, none⟩ bs.length) := (But.of_below (Below.refl _ w).drew).trans (hF2.mono' (fun k hk => .inr (by rw [hk]; rfl)))
    clear hF1 hF2 hO g3 g4 hg htake
    go_enter Tryd.func65, Tryd.ntmps65
    go_wp2
    apply wp_det
    case det =>
      go_region
      all_goals exact ⟨rfl, rfl⟩
    case go =>
      go_wp2
      go_ret
      exact ⟨rfl, hkeep, hbut⟩

theorem str_at (bs : List Int) (hr : ∀ x ∈ bs, 0 ≤ x ∧ x ≤ 255) (n : Nat) (h : n < (strOfNums bs).size) : (((strOfNums bs)[n]'h).toNat : Int) = bs.getD n 0 := by
  have h2 : n < bs.length := by rw [strOfNums_size] at h; exact h
  obtain ⟨h3, h4⟩ := hr (bs[n]) (List.getElem_mem h2)
  have h5 : (strOfNums bs)[n]'h = UInt8.ofNat (bs[n]).toNat := by
    show (strOfNums bs).data[n]'h = _
    simp [strOfNums]
  rw [h5, UInt8.toNat_ofNat_of_lt' (by simp [UInt8.size]; omega)]
  simp [List.getD_eq_getElem?_getD, h2]
  omega
set_option maxRecDepth 100000 in
set_option maxHeartbeats 4000000 in
theorem at_p (w : World) (B base : Nat) (V : Value) (bs : List Int) (bf : ByteArray) (d : Nat) (h : OSt w B base V bs bf) (hr : ∀ x ∈ bs, 0 ≤ x ∧ x ≤ 255) (hl : bs.length + bf.size ≤ 140737488355328) (hd : 1 ≤ d) (hd2 : d ≤ bs.length + bf.size) :
    Calls Tryd.prog 64 #[.pointer (some ⟨B, 0, none⟩), .int .i64 (d : Int)] w fun e w' => e = .returned (.int .u8 ((bI bf ++ bs).getD (bf.size + bs.length - d) 0)) ∧ OSt w' B base V bs bf ∧ But (Oth B V) w w' := by
  have qL := fun w h => len_p w B base V bs bf h
  have qS := fun w h => str_p w B base V bs bf h hr (by omega)
  obtain ⟨c1, c2, lB⟩ := h.cells
  have HL := Lib.hid h
  by_cases hdb : d ≤ bs.length
  · obtain ⟨n, hn⟩ : ∃ n : Nat, bs.length = n + d := ⟨bs.length - d, by omega⟩
    have hy : (bI bf ++ bs).getD (bf.size + bs.length - d) 0 = bs.getD n 0 := by
      rw [show bf.size + bs.length - d = (bI bf).length + n by rw [bI_len]; omega]
      rw [List.getD_eq_getElem?_getD, List.getElem?_append_right (by omega), List.getD_eq_getElem?_getD]
      congr 2
      omega
    rw [hy]
    have hsz : (strOfNums bs).size = bs.length := strOfNums_size bs
    have hg := str_at bs hr n
    obtain ⟨c, hc⟩ : ∃ c : Nat, bs.getD n 0 = (c : Int) := ⟨(bs.getD n 0).toNat, by
      have := hr (bs[n]'(by omega)) (List.getElem_mem _)
      simp [List.getD_eq_getElem?_getD, show n < bs.length by omega]
      omega⟩
    rw [hc] at hg ⊢
    have hg2 : ∀ h, ((strOfNums bs)[n]'h).toNat = c := fun h => by have := hg h; omega
    generalize strOfNums bs = S at qS hsz hg2
    have e1 : decide ((d : Int) ≤ (bs.length : Int)) = true := by simp; omega
    have a1 : IntKind.i64.wrap ((bs.length : Int) - (d : Int)) = (n : Int) := by rw [IntWalk.i64_in _ (by omega)]; omega
    have i1 : (n : Int) < (S.size : Int) := by omega
    have i0 : (0 : Int) ≤ (n : Int) := by omega
    have i2 : n < S.size := by omega
    clear hg hy hc hn hsz
    go_enter Tryd.func64, Tryd.ntmps64
    go_wp2_with (go_at_call 97; refine (qL _ HL.out).mono ?_; rintro en w1 ⟨rfl, rfl⟩)
    go_region_with (first | (go_at_call 97; refine (qL _ (by first | exact HL.out | exact hO2 | exact HL.out.later (Below.refl _ _).drew)).mono ?_; rintro en w1 ⟨rfl, hw1⟩; subst hw1) | (go_at_call 65; refine (qS _ (by first | exact HL.out | exact HL.out.later (Below.refl _ _).drew)).mono ?_; rintro en w2 ⟨rfl, hO2, hb2⟩))
    all_goals
      go_wp2
      refine bodyPost_ret (v := .int .u8 (c : Int)) (by simp [results, Tryd.results64, go_sem, *]) rfl ⟨rfl, hO2, (But.of_below (Below.refl _ _).drew).trans hb2⟩
  · obtain ⟨n, hn⟩ : ∃ n : Nat, bf.size + bs.length = n + d := ⟨bf.size + bs.length - d, by omega⟩
    have hnb : n < bf.size := by omega
    have hy : (bI bf ++ bs).getD (bf.size + bs.length - d) 0 = (byt bf n : Int) := by
      rw [show bf.size + bs.length - d = n by omega, ← bI_get]
      simp only [List.getD_eq_getElem?_getD]
      rw [List.getElem?_append_left (by rw [bI_len]; exact hnb)]
    rw [hy]
    have hg2 : ∀ h, (bf[n]'h).toNat = byt bf n := fun h => (byt_get hnb rfl).symm
    generalize byt bf n = c at hg2 ⊢
    have e1 : decide ((d : Int) ≤ (bs.length : Int)) = false := by simp; omega
    have a0 : IntKind.i64.wrap ((bf.size : Int) + (bs.length : Int)) = (bf.size : Int) + (bs.length : Int) := IntWalk.i64_in _ (by omega)
    have a1 : IntKind.i64.wrap ((bf.size : Int) + (bs.length : Int) - (d : Int)) = (n : Int) := by rw [IntWalk.i64_in _ (by omega)]; omega
    have i1 : (n : Int) < (bf.size : Int) := by omega
    have i0 : (0 : Int) ≤ (n : Int) := by omega
    clear hy hn
    go_enter Tryd.func64, Tryd.ntmps64
    go_wp2_with (go_at_call 97; refine (qL _ HL.out).mono ?_; rintro en w1 ⟨rfl, hw1⟩; subst hw1)
    apply wp_det
    case det =>
      go_region_with (go_at_call 97; refine (qL _ (by first | exact HL.out | exact HL.out.later (Below.refl _ _).drew)).mono ?_; rintro en w1 ⟨rfl, hw1⟩; subst hw1)
      all_goals exact ⟨rfl, rfl⟩
    case go =>
      go_wp2
      refine bodyPost_ret (v := .int .u8 (c : Int)) (by simp [results, Tryd.results64, go_sem, *]) rfl ⟨rfl, HL.out.later (Below.refl _ _).drew, But.of_below (Below.refl _ _).drew⟩
end Go.Proofs.YtmblpmaelglnpaaDoor
