/-
  All matches of a place, walked.
-/
import Derived.Test.YtammacofhdbgcaaRows
import Derived.Test.YtammacofhdbgcaaMatchIter
import Derived.Test.YtammacofhdbgcaaWindow9
import Derived.Test.YtammacofhdbgcaaRangeK
import Derived.Test.YtammacofhdbgcaaCommon
import Derived.Deep.Light
import Derived.Shelf.Abstract
import Derived.Shelf.RegionOpen
import Derived.OwnWalkIn
import Derived.TacticsInMore
import Derived.LoopNIn
import Derived.LoopIn
import Derived.Maps.OwnIn
import Derived.Outline
namespace Go.Proofs.Ytammacofhdbgcaa
open Go.RowKit
set_option linter.unusedSimpArgs false
set_option linter.unusedVariables false
open Go.Shelf
attribute [local go_sem] Oper.semAt_some

theorem candAll_lt (s : ByteArray) (p e l : Nat) : ∀ q ∈ candAll s p e l, q < p := by
  intro q hq
  unfold candAll at hq
  split at hq
  · simp at hq
  · simp only [List.mem_reverse, plc, List.mem_filter, List.mem_range'_1] at hq
    have : wback p l ≤ p := by unfold wback; omega
    omega
/-- What hands back matches and an error: the slice leads to these matches; it lies in new memory. -/
def AllPost (R : List (Int × Int × Int × Int) × Int) (w : World) (e : Ending) (w' : World) : Prop :=
  ∃ pa ca, R.1.length ≤ ca ∧ e = .returned (.tuple #[.slice pa R.1.length ca, .int .i64 R.2]) ∧ (∀ g, (Value.slice pa R.1.length ca).ownBlock = some g → w.heap.size ≤ g) ∧ RowM w' pa R.1 ∧ Below w.heap.size w w'
theorem allPost_err (x : Int) {w w' : World} (hb : Below w.heap.size w w') : AllPost ([], x) w (.returned (.tuple #[.slice none 0 0, .int .i64 x])) w' :=
  ⟨none, 0, Nat.le_refl _, rfl, fun g h => by simp [Value.ownBlock] at h, .inl rfl, hb⟩
theorem But.keep {S : Nat → Prop} {W X Y : World} (h : But S W X) (hk : Keep W.heap.size X Y) : But S W Y :=
  ⟨hk.os.trans h.os, hk.tape.trans h.tape, hk.output.trans h.output, Nat.le_trans h.size hk.size, fun k o hn ho => hk.block k o (h.block k o hn ho) (.inl (Array.getElem?_eq_some_iff.1 ho).1)⟩
theorem But.mono {S S' : Nat → Prop} {X Y : World} (h : But S X Y) (hS : ∀ k, S k → S' k) : But S' X Y :=
  ⟨h.os, h.tape, h.output, h.size, fun k o hn ho => h.block k o (fun hs => hn (hS k hs)) ho⟩
theorem But.later {S : Nat → Prop} {W X Y : World} (h : But S W X) (hb : Below W.heap.size X Y) : But S W Y :=
  ⟨hb.os.trans h.os, hb.tape.trans h.tape, hb.output.trans h.output, Nat.le_trans h.size hb.size, fun k o hn ho => by rw [hb.block k (Array.getElem?_eq_some_iff.1 ho).1]; exact h.block k o hn ho⟩
theorem RowM.keep {B : Nat} {w w' : World} {a : Option Addr} {ms : List (Int × Int × Int × Int)} (h : RowM w a ms) (hk : Keep B w w') : RowM w' a ms := by
  rcases h with h | ⟨b, off, ha, hlt, hc⟩
  · exact .inl h
  · refine .inr ⟨b, off, ha, Nat.lt_of_lt_of_le hlt hk.size, fun i hi => ?_⟩
    obtain ⟨h1, h2, h3, h4⟩ := hc i hi
    exact ⟨hk.cell h1, hk.cell h2, hk.cell h3, hk.cell h4⟩
theorem own_slice4 {w : World} {base : Nat} {e : TypeId} {v : Value} {n : Nat} {xs : List Value} (h : w.ownsRow base e 4 v n xs) : ∃ a cap, v = .slice a n cap := by
  rcases h.2 with ⟨rfl, rfl⟩ | ⟨g, cap, cur, rfl, _⟩
  · exact ⟨none, 0, rfl⟩
  · exact ⟨_, cap, rfl⟩
theorem own_cap4 {w : World} {base : Nat} {e : TypeId} {a : Option Addr} {n m cap : Nat} {xs : List Value} (h : w.ownsRow base e 4 (.slice a m cap) n xs) : m ≤ cap := by
  rcases h.2 with ⟨h1, rfl⟩ | ⟨g, cap', cur, h1, _, _, h2, _⟩
  · simp at h1; omega
  · simp at h1; omega
theorem own_cells4 {w : World} {base : Nat} {e : TypeId} {v : Value} {n : Nat} {xs : List Value} (h : w.ownsRow base e 4 v n xs) : ∀ g, v.ownBlock = some g → ∃ c t q, w.heap[g]? = some (.cells c t q) := by
  intro g hg
  rcases h.2 with ⟨rfl, rfl⟩ | ⟨g', cap, cur, rfl, _, hh, _⟩
  · cases hg
  · cases hg; exact ⟨_, _, _, hh⟩
theorem own_base4 {w : World} {base : Nat} {e : TypeId} {v : Value} {n : Nat} {xs : List Value} (h : w.ownsRow base e 4 v n xs) : ∀ g, v.ownBlock = some g → base ≤ g := by
  intro g hg
  rcases h.2 with ⟨rfl, rfl⟩ | ⟨g', cap, cur, rfl, hb, _⟩
  · cases hg
  · cases hg; exact hb
set_option maxRecDepth 100000 in
set_option maxHeartbeats 2000000 in
theorem mall_1 (s : ByteArray) (p e l d : Nat) (a b c lits : Int) (w : World) (hs : s.size ≤ 1048576) (hpe : p ≤ e) (hes : e ≤ s.size) (hl1 : 10 ≤ l) (hl2 : l ≤ 27) (hd1 : 1 ≤ d) (hd2 : d ≤ 64) (hli : 0 ≤ lits) (hw : wchk s.size p e l = 0) (hc : chkL true [a, b, c] = 0) (C : List Nat) (HC : Hid ((candAll s p e l).take d = C)) :
    Calls Try.prog 16 #[.string s, .int .i64 (p : Int), .int .i64 (e : Int), .int .i64 (l : Int), .int .i64 (d : Int), .agg #[.int .i64 a, .int .i64 b, .int .i64 c], .int .i64 lits] w (AllPost (mofs s p e a b c lits C, 0) w) := by
  have q1 := fun w => wcheck_p s p e l w (by omega)
  rw [hw] at q1
  have q2 := fun w => check_p a b c w
  rw [hc] at q2
  have q3 := fun w => cand_1 s p e l d w hs hpe hes hl1 hl2 hd2 hw _ rfl
  rw [HC.out] at q3
  have hCl : C.length ≤ 64 := by rw [← HC.out]; simp; omega
  have hCm : ∀ q ∈ C, q < p := fun q hq => by rw [← HC.out] at hq; exact candAll_lt s p e l q (List.mem_of_mem_take hq)
  have g1 : ¬ (d : Int) < 1 := by omega
  have g2 : ¬ (64 : Int) < (d : Int) := by omega
  have g3 : ¬ lits < 0 := by omega
  have HW := Lib.hid hw
  have HCH := Lib.hid hc
  have HCM := Lib.hid hCm
  clear hw hc hCm
  refine calls_of_marks Try.func16 rfl ?_
  simp only [Try.ntmps16, List.size_toArray, List.length_cons, List.length_nil, Nat.reduceAdd, Nat.reduceSub, Array.replicate_succ, Array.replicate_zero, List.push_toArray, List.append_toArray, List.nil_append, List.cons_append]
  go_wp2_with (first | (go_at_call 51; refine (q1 _).mono ?_; rintro e w1 ⟨rfl, hb⟩; have hsz := hb.size; (try simp at hsz); (first | (have hbl := blater2 HA (by first | exact Nat.le_refl _ | (simp; done) | (simp; omega)) hb; obtain ⟨hcc, hff, HA, hne, hne'⟩ := hbl) | (obtain ⟨hcc, hff, HA, hne, hne'⟩ := blater1 hb)); (try simp only [World.size_alloc, World.size_setCell] at HA)) | (go_at_call 52; refine (q2 _).mono ?_; rintro e w1 ⟨rfl, hb⟩; have hsz := hb.size; (try simp at hsz); (first | (have hbl := blater2 HA (by first | exact Nat.le_refl _ | (simp; done) | (simp; omega)) hb; obtain ⟨hcc, hff, HA, hne, hne'⟩ := hbl) | (obtain ⟨hcc, hff, HA, hne, hne'⟩ := blater1 hb)); (try simp only [World.size_alloc, World.size_setCell] at HA)) | (go_at_call 53; refine (q3 _).mono ?_; rintro e w1 ⟨pa, ca, hca, rfl, hrA, hb⟩; have hsz := hb.size; (try simp at hsz); (first | (have hbl := blater2 HA (by first | exact Nat.le_refl _ | (simp; done) | (simp; omega)) hb; obtain ⟨hcc, hff, HA, hne, hne'⟩ := hbl) | (obtain ⟨hcc, hff, HA, hne, hne'⟩ := blater1 hb)); (try simp only [World.size_alloc, World.size_setCell] at HA)) | go_in)
  repeat' (first | (go_region <;> go_wp2_with (first | (go_at_call 51; refine (q1 _).mono ?_; rintro e w1 ⟨rfl, hb⟩; have hsz := hb.size; (try simp at hsz); (first | (have hbl := blater2 HA (by first | exact Nat.le_refl _ | (simp; done) | (simp; omega)) hb; obtain ⟨hcc, hff, HA, hne, hne'⟩ := hbl) | (obtain ⟨hcc, hff, HA, hne, hne'⟩ := blater1 hb)); (try simp only [World.size_alloc, World.size_setCell] at HA)) | (go_at_call 52; refine (q2 _).mono ?_; rintro e w1 ⟨rfl, hb⟩; have hsz := hb.size; (try simp at hsz); (first | (have hbl := blater2 HA (by first | exact Nat.le_refl _ | (simp; done) | (simp; omega)) hb; obtain ⟨hcc, hff, HA, hne, hne'⟩ := hbl) | (obtain ⟨hcc, hff, HA, hne, hne'⟩ := blater1 hb)); (try simp only [World.size_alloc, World.size_setCell] at HA)) | (go_at_call 53; refine (q3 _).mono ?_; rintro e w1 ⟨pa, ca, hca, rfl, hrA, hb⟩; have hsz := hb.size; (try simp at hsz); (first | (have hbl := blater2 HA (by first | exact Nat.le_refl _ | (simp; done) | (simp; omega)) hb; obtain ⟨hcc, hff, HA, hne, hne'⟩ := hbl) | (obtain ⟨hcc, hff, HA, hne, hne'⟩ := blater1 hb)); (try simp only [World.size_alloc, World.size_setCell] at HA)) | go_in)))
  obtain ⟨W0, hW0⟩ : ∃ W0, (((((((w1.alloc (.cells #[.slice none 0 0] 27)).alloc (.cells #[.string s] 9)).alloc (.cells #[.int .i64 (p : Int)] 3)).alloc (.cells #[.int .i64 (e : Int)] 3)).alloc (.cells #[.slice pa C.length ca] 37)).alloc (.cells #[.int .i64 a, .int .i64 b, .int .i64 c] 23)).alloc (.cells #[.int .i64 lits] 3)) = W0 := ⟨_, rfl⟩
  have B0 : Below w.heap.size w W0 := by
    rw [← hW0]
    repeat' (first | exact Below.refl _ _ | refine Below.drew ?_ | refine below_drewN ?_ _ | refine Below.alloc ?_ (by first | omega | (simp <;> omega)) _ | refine Below.setCell ?_ (by first | omega | (simp <;> omega)) _ | refine Below.trans ?_ (Below.mono (by assumption) (by first | omega | (simp <;> omega))))
  have BA : Below w1.heap.size w1 W0 := by
    rw [← hW0]
    repeat' (first | exact Below.refl _ _ | refine Below.alloc ?_ (by first | (simp; done) | (simp; omega)) _)
  have hw1 : w.heap.size + 1 ≤ w1.heap.size := by omega
  have xo : W0.cell? ⟨w1.heap.size, 0, none⟩ = some (.slice none 0 0) := by rw [← hW0]; simp [go_sem]
  have fo : W0.frozen? ⟨w1.heap.size, 0, none⟩ = false := by rw [← hW0]; simp [go_sem]
  have xs : W0.cell? ⟨w1.heap.size + 1, 0, none⟩ = some (.string s) := by rw [← hW0]; simp [go_sem]
  have xp : W0.cell? ⟨w1.heap.size + 1 + 1, 0, none⟩ = some (.int .i64 (p : Int)) := by rw [← hW0]; simp [go_sem]
  have xe : W0.cell? ⟨w1.heap.size + 1 + 1 + 1, 0, none⟩ = some (.int .i64 (e : Int)) := by rw [← hW0]; simp [go_sem]
  have xl : W0.cell? ⟨w1.heap.size + 1 + 1 + 1 + 1, 0, none⟩ = some (.slice pa C.length ca) := by rw [← hW0]; simp [go_sem]
  have xr : W0.cell? ⟨w1.heap.size + 1 + 1 + 1 + 1 + 1, 0, none⟩ = some (.int .i64 a) ∧ W0.cell? ⟨w1.heap.size + 1 + 1 + 1 + 1 + 1, 1, none⟩ = some (.int .i64 b) ∧ W0.cell? ⟨w1.heap.size + 1 + 1 + 1 + 1 + 1, 2, none⟩ = some (.int .i64 c) := by rw [← hW0]; refine ⟨?_, ?_, ?_⟩ <;> simp [go_sem]
  have xt : W0.cell? ⟨w1.heap.size + 1 + 1 + 1 + 1 + 1 + 1, 0, none⟩ = some (.int .i64 lits) := by rw [← hW0]; simp [go_sem]
  have HRW := Lib.hid hrA
  have HBA := Lib.hid BA
  have S0 : w1.heap.size + 7 ≤ W0.heap.size := by rw [← hW0]; simp
  rw [hW0]
  clear hW0 hcc hff HA hne hne' hsz hb BA hrA g1 g2 g3 q1 q2 q3
  obtain ⟨bo, hbo⟩ : ∃ n, w1.heap.size = n := ⟨_, rfl⟩
  obtain ⟨bs, hbs⟩ : ∃ n, bo + 1 = n := ⟨_, rfl⟩
  obtain ⟨bp, hbp⟩ : ∃ n, bs + 1 = n := ⟨_, rfl⟩
  obtain ⟨be, hbe⟩ : ∃ n, bp + 1 = n := ⟨_, rfl⟩
  obtain ⟨bl, hbl⟩ : ∃ n, be + 1 = n := ⟨_, rfl⟩
  obtain ⟨br, hbr⟩ : ∃ n, bl + 1 = n := ⟨_, rfl⟩
  obtain ⟨bt, hbt⟩ : ∃ n, br + 1 = n := ⟨_, rfl⟩
  rw [hbo] at S0 hw1
  simp only [hbo, hbs, hbp, hbe, hbl, hbr, hbt] at xo fo xs xp xe xl xr xt ⊢
  obtain ⟨i4, hi4, hz0, hz1, hz2⟩ := info_parts infoMatch
  have FR := Lib.hid (⟨xl, xs, xp, xe, xr.1, xr.2.1, xr.2.2, xt⟩ : W0.cell? ⟨bl, 0, none⟩ = some (.slice pa C.length ca) ∧ W0.cell? ⟨bs, 0, none⟩ = some (.string s) ∧ W0.cell? ⟨bp, 0, none⟩ = some (.int .i64 (p : Int)) ∧ W0.cell? ⟨be, 0, none⟩ = some (.int .i64 (e : Int)) ∧ W0.cell? ⟨br, 0, none⟩ = some (.int .i64 a) ∧ W0.cell? ⟨br, 1, none⟩ = some (.int .i64 b) ∧ W0.cell? ⟨br, 2, none⟩ = some (.int .i64 c) ∧ W0.cell? ⟨bt, 0, none⟩ = some (.int .i64 lits))
  clear xs xp xe xl xr xt
  refine wp_rangeK_box (gf := 83) (lb := #[.pointer (some ⟨bl, 0, none⟩), .pointer (some ⟨bs, 0, none⟩), .pointer (some ⟨bp, 0, none⟩), .pointer (some ⟨be, 0, none⟩), .pointer (some ⟨br, 0, none⟩), .pointer (some ⟨bt, 0, none⟩)]) rfl (enters_of Try.func83 (by kernel_rfl) rfl) (fun _ => False) (fun _ h => h.elim) C.length (fun i => #[.agg #[.int .i64 (mof s p e a b c lits (C.getD i 0)).1, .int .i64 (mof s p e a b c lits (C.getD i 0)).2.1, .int .i64 (mof s p e a b c lits (C.getD i 0)).2.2.1, .int .i64 (mof s p e a b c lits (C.getD i 0)).2.2.2]]) (fun _ => rfl)
    (fun i W => ∃ ad cap, W.cell? ⟨bo, 0, none⟩ = some (.slice ad i cap) ∧ W.frozen? ⟨bo, 0, none⟩ = false ∧ W.ownsRow W0.heap.size 32 4 (.slice ad i cap) i (flatM (mofs s p e a b c lits (C.take i))) ∧ But (fun k => k = bo) W0 W)
    (fun co W => False)
    (fun i x W => W.cell? ⟨x, 0, none⟩ = some (.int .i64 (mof s p e a b c lits (C.getD i 0)).1) ∧ W.cell? ⟨x, 1, none⟩ = some (.int .i64 (mof s p e a b c lits (C.getD i 0)).2.1) ∧ W.cell? ⟨x, 2, none⟩ = some (.int .i64 (mof s p e a b c lits (C.getD i 0)).2.2.1) ∧ W.cell? ⟨x, 3, none⟩ = some (.int .i64 (mof s p e a b c lits (C.getD i 0)).2.2.2) ∧ W0.heap.size ≤ x)
    ?hI ?hIS (fun W => True) (fun W => True) ?hF ?hG ?hIx ?hBx ?h0 ?hround ?hiter ?hdone ?hstop
  case hI =>
    rintro i X Y hk ⟨ad, cap, y1, y2, y6, y8⟩
    exact ⟨ad, cap, hk.cell y1, (hk.frozen y1).trans y2, hk.ownsRow y6, y8.keep hk⟩
  case hIS =>
    rintro i X Y hb ⟨ad, cap, y1, y2, y6, y8⟩
    exact ⟨ad, cap, hb.cell (fun h => h) y1, (hb.frozen (fun h => h) y1).trans y2, hb.ownsRow y6 (fun k hk h => h), y8.trans (hb.mono fun k hk => hk.elim)⟩
  case hF => exact fun X Y hk h => h
  case hG => exact fun X Y hk h => h
  case hIx => exact fun co X Y hk h => h
  case hBx =>
    rintro i x X Y hk ⟨y1, y2, y3, y4, y5⟩
    exact ⟨hk.cell y1, hk.cell y2, hk.cell y3, hk.cell y4, y5⟩
  case h0 =>
    exact ⟨none, 0, xo, fo, World.ownsRow_nil _ _ _ _, But.refl _ _⟩
  case hround =>
    intro l' i W hi hI hl'
    have HI := Lib.hid hI
    obtain ⟨⟨md, ml, mv, mg⟩, hm⟩ : ∃ m, mof s p e a b c lits (C.getD i 0) = m := ⟨_, rfl⟩
    have htk : flatM (mofs s p e a b c lits (C.take (i + 1))) = flatM (mofs s p e a b c lits (C.take i)) ++ [.int .i64 md, .int .i64 ml, .int .i64 mv, .int .i64 mg] := by
      have h1 : C.take (i + 1) = C.take i ++ [C.getD i 0] := by
        rw [List.take_succ_eq_append_getElem hi]
        simp [List.getD_eq_getElem?_getD, hi]
      rw [h1]
      unfold mofs
      rw [List.map_append, flatM_append]
      simp only [List.map_cons, List.map_nil, hm]
      rfl
    have HTK := Lib.hid htk
    simp only [hm]
    clear hI htk hm
    gi_wp2
    have hal : Below W.heap.size W (W.alloc (.cells #[.int .i64 md, .int .i64 ml, .int .i64 mv, .int .i64 mg] 32)) := (Below.refl _ W).alloc (Nat.le_refl _) _
    have hsW : W0.heap.size ≤ W.heap.size := by obtain ⟨ad, cap, y1, y2, y6, y8⟩ := HI.out; exact y8.size
    refine ⟨keepsFrom_of_below hal, Stay.of_below hal, ?_, W.heap.size, ⟨by simp [go_sem], by simp [go_sem], by simp [go_sem], by simp [go_sem], hsW⟩, ?_⟩
    · obtain ⟨ad, cap, y1, y2, y6, y8⟩ := HI.out
      have hk := Keep.of_below (B := W0.heap.size) hal
      exact ⟨ad, cap, hk.cell y1, (hk.frozen y1).trans y2, hk.ownsRow y6, y8.keep hk⟩
    clear hal HI
    rintro W2 hl2 ⟨ad, cap, y1, y2, y6, y8⟩ ⟨z1, z2, z3, z4, z5⟩
    obtain ⟨X, hX⟩ : ∃ X, W.heap.size = X := ⟨_, rfl⟩
    rw [hX] at z1 z2 z3 z4 z5 ⊢
    clear hX hsW
    have HY6 := Lib.hid y6
    have HY8 := Lib.hid y8
    have hs8 := y8.size
    clear y6 y8
    have CN : ∀ (j : Nat) (u : Value), [Value.int .i64 md, .int .i64 ml, .int .i64 mv, .int .i64 mg][j]? = some u → (W2.alloc (.cells #[.int .i64 md, .int .i64 ml, .int .i64 mv, .int .i64 mg] 32)).cell? ((⟨W2.heap.size, 0, none⟩ : Addr).add j) = some u := by
      intro j u hj
      match j, hj with
      | 0, hj => simp at hj; subst hj; simp [Addr.add, go_sem]
      | 1, hj => simp at hj; subst hj; simp [Addr.add, go_sem]
      | 2, hj => simp at hj; subst hj; simp [Addr.add, go_sem]
      | 3, hj => simp at hj; subst hj; simp [Addr.add, go_sem]
    have C1 : ∀ u ∈ [Value.int .i64 md, .int .i64 ml, .int .i64 mv, .int .i64 mg], u.oneCell' = true := by
      intro u hu
      simp at hu
      rcases hu with rfl | rfl | rfl | rfl <;> rfl
    have HCN := Lib.hid CN
    have HC1 := Lib.hid C1
    clear CN C1
    gi_wp2_with (gi_at_builtin; refine wpListIn_append_own_at _ rfl _ _ 27 rfl W0.heap.size 32 i4 (.agg #[.int .i64 0, .int .i64 0, .int .i64 0, .int .i64 0]) 4 32 Try.underlying27 hi4 hz0 hz1 hz2 rfl (by decide) _ _ _ rfl (HY6.out.alloc _) ⟨W2.heap.size, 0, none⟩ 1 1 [.int .i64 md, .int .i64 ml, .int .i64 mv, .int .i64 mg] rfl rfl HCN.out HC1.out ?_ ?_ ?_ ?_; (unfold maxLen; omega); omega; (simp; omega); intro v' w4 ho' hg4 hnil hat; obtain ⟨ad', cap', rfl⟩ := own_slice4 ho'; have hb4 : Below W0.heap.size W2 w4 := ((Below.refl _ W2).alloc (by omega) _).grown hg4 (by simp; omega) (own_base4 HY6.out); have u1 := (hb4.cell (p := ⟨bo, 0, none⟩) (by simp; omega)).trans y1; have u2 := (hb4.frozen (p := ⟨bo, 0, none⟩) (by simp; omega)).trans y2)
    have hs4 := hg4.size
    simp at hs4
    refine ⟨((keepsFrom_of_below ((Below.refl _ W2).alloc (Nat.le_refl _) _)).trans (keepsFrom_grown_o hg4 (own_cells4 (HY6.out.alloc _)))).trans ((KeepsOthers.setCell _ _ _).from _), ⟨ad', cap', by simp [go_sem, u1], by simp [go_sem, u2], ?_, (HY8.out.later hb4).trans (But.setCell _ _ rfl)⟩, fun _ _ h => h.elim⟩
    rw [HTK.out]
    exact World.ownsRow.kept ho' (grown_setCell_o _ _ _) (.inr (fun h => by have := own_base4 ho' _ h; simp at this; omega))
  case hiter =>
    intro l' J Jx W hb hst hJI _ hr hj
    exact (matches_iter s p e a b c lits C pa ca bl bs bp be br bt l' (by omega) hCl HCM.out hs hpe hes HCH.out hli J Jx W (fun i X Y h => hst i X Y (But.of_below h)) (fun i X h => by
      obtain ⟨ad, cap, y1, y2, y6, y8⟩ := hJI i X h
      obtain ⟨z1, z2, z3, z4, z5, z6, z7, z8⟩ := FR.out
      have hbx := y8.below HBA.out (fun k hk => by omega) (by omega)
      rw [nats_len]
      exact ⟨y8.cell (by simp; omega) z1, y8.cell (by simp; omega) z2, y8.cell (by simp; omega) z3, y8.cell (by simp; omega) z4, y8.cell (by simp; omega) z5, y8.cell (by simp; omega) z6, y8.cell (by simp; omega) z7, y8.cell (by simp; omega) z8, HRW.out.later hbx⟩) (fun i X hi hX => by
        obtain ⟨fn, tmps, assign, body, hy, hRo⟩ := hr i X hi hX
        refine ⟨fn, tmps, assign, body, hy, hRo.mono ?_⟩
        rintro e W4 (⟨h1, h2, _⟩ | ⟨h1, h2, _⟩)
        · exact .inl ⟨h1, h2⟩
        · exact .inr ⟨h1, h2⟩) hj).mono fun e W' h => ⟨h.1, h.2.imp (fun h => ⟨h, trivial⟩) (fun h => ⟨h, trivial⟩)⟩
  case hdone =>
    rintro D W hD ⟨ad, cap, y1, y2, y6, y8⟩ _ hdf
    have HY6 := Lib.hid y6
    have HY8 := Lib.hid y8
    clear y6 y8
    all_goals go_wp2
    all_goals refine ⟨by simp, .inl ⟨_, _, rfl, run_takeDeferred (by repeat' (first | exact hdf | apply setCell_deferred)), ?_⟩⟩
    all_goals go_light
    have hln : (mofs s p e a b c lits C).length = C.length := mofs_len _ _ _ _ _ _ _ _
    refine ⟨_, results_tmp2 rfl _ _ _, ad, cap, ?_, ?_, ?_, ?_, ?_⟩
    · rw [hln]; exact own_cap4 HY6.out
    · rw [hln]; rfl
    · rw [hln]; intro g hg
      have := own_base4 HY6.out g hg
      have := B0.size
      omega
    · have hrow := RowM.of_own HY6.out (by rw [mofs_len, List.length_take]; omega)
      rw [List.take_of_length_le (Nat.le_refl _)] at hrow
      exact hrow.keep (Keep.putObj (B := 0) (.deferred none) (by omega) hdf rfl)
    · exact below_putObj (HY8.out.below B0 (fun k hk => by omega) (by have := B0.size; omega)) (by have := B0.size; omega) _
  case hstop => exact fun D co W hD h => h.elim

set_option maxHeartbeats 1000000 in
theorem mall_e1 (s : ByteArray) (p e l d a b c lits : Int) (w : World) (hl : s.size ≤ 9223372036854775807) (hw : (wchk s.size p e l != 0) = true) :
    Calls Try.prog 16 #[.string s, .int .i64 p, .int .i64 e, .int .i64 l, .int .i64 d, .agg #[.int .i64 a, .int .i64 b, .int .i64 c], .int .i64 lits] w (AllPost ([], wchk s.size p e l) w) := by
  have q1 := fun w => wcheck_p s p e l w hl
  have q2 := fun w => check_p a b c w
  refine calls_of_marks Try.func16 rfl ?_
  simp only [Try.ntmps16, List.size_toArray, List.length_cons, List.length_nil, Nat.reduceAdd, Nat.reduceSub, Array.replicate_succ, Array.replicate_zero, List.push_toArray, List.append_toArray, List.nil_append, List.cons_append]
  go_wp2_with (first | (go_at_call 51; refine (q1 _).mono ?_; rintro e w1 ⟨rfl, hb⟩; have hsz := hb.size; (try simp at hsz); (first | (have hbl := blater2 HA (by first | exact Nat.le_refl _ | (simp; done) | (simp; omega)) hb; obtain ⟨hcc, hff, HA, hne, hne'⟩ := hbl) | (obtain ⟨hcc, hff, HA, hne, hne'⟩ := blater1 hb)); (try simp only [World.size_alloc, World.size_setCell] at HA)))
  repeat' (first | (go_region <;> go_wp2_with (first | (go_at_call 51; refine (q1 _).mono ?_; rintro e w1 ⟨rfl, hb⟩; have hsz := hb.size; (try simp at hsz); (first | (have hbl := blater2 HA (by first | exact Nat.le_refl _ | (simp; done) | (simp; omega)) hb; obtain ⟨hcc, hff, HA, hne, hne'⟩ := hbl) | (obtain ⟨hcc, hff, HA, hne, hne'⟩ := blater1 hb)); (try simp only [World.size_alloc, World.size_setCell] at HA)))))
  all_goals (try rw [Exit.noGoto_ret])
  all_goals go_light
  all_goals (refine ⟨.tuple #[.slice none 0 0, .int .i64 (wchk s.size p e l)], by simp [results, Try.results16, go_sem, *], allPost_err _ ?_⟩; repeat' (first | exact Below.refl _ _ | refine Below.drew ?_ | refine below_drewN ?_ _ | refine Below.alloc ?_ (by first | omega | (simp <;> omega)) _ | refine Below.setCell ?_ (by first | omega | (simp <;> omega)) _ | refine Below.trans ?_ (Below.mono (by assumption) (by first | omega | (simp <;> omega)))))

set_option maxHeartbeats 1000000 in
theorem mall_e2 (s : ByteArray) (p e l d a b c lits : Int) (w : World) (hl : s.size ≤ 9223372036854775807) (hw : wchk s.size p e l = 0) (hc : (chkL true [a, b, c] != 0) = true) :
    Calls Try.prog 16 #[.string s, .int .i64 p, .int .i64 e, .int .i64 l, .int .i64 d, .agg #[.int .i64 a, .int .i64 b, .int .i64 c], .int .i64 lits] w (AllPost ([], chkL true [a, b, c]) w) := by
  have q1 := fun w => wcheck_p s p e l w hl
  have q2 := fun w => check_p a b c w
  rw [hw] at q1
  refine calls_of_marks Try.func16 rfl ?_
  simp only [Try.ntmps16, List.size_toArray, List.length_cons, List.length_nil, Nat.reduceAdd, Nat.reduceSub, Array.replicate_succ, Array.replicate_zero, List.push_toArray, List.append_toArray, List.nil_append, List.cons_append]
  go_wp2_with (first | (go_at_call 51; refine (q1 _).mono ?_; rintro e w1 ⟨rfl, hb⟩; have hsz := hb.size; (try simp at hsz); (first | (have hbl := blater2 HA (by first | exact Nat.le_refl _ | (simp; done) | (simp; omega)) hb; obtain ⟨hcc, hff, HA, hne, hne'⟩ := hbl) | (obtain ⟨hcc, hff, HA, hne, hne'⟩ := blater1 hb)); (try simp only [World.size_alloc, World.size_setCell] at HA)) | (go_at_call 52; refine (q2 _).mono ?_; rintro e w1 ⟨rfl, hb⟩; have hsz := hb.size; (try simp at hsz); (first | (have hbl := blater2 HA (by first | exact Nat.le_refl _ | (simp; done) | (simp; omega)) hb; obtain ⟨hcc, hff, HA, hne, hne'⟩ := hbl) | (obtain ⟨hcc, hff, HA, hne, hne'⟩ := blater1 hb)); (try simp only [World.size_alloc, World.size_setCell] at HA)))
  repeat' (first | (go_region <;> go_wp2_with (first | (go_at_call 51; refine (q1 _).mono ?_; rintro e w1 ⟨rfl, hb⟩; have hsz := hb.size; (try simp at hsz); (first | (have hbl := blater2 HA (by first | exact Nat.le_refl _ | (simp; done) | (simp; omega)) hb; obtain ⟨hcc, hff, HA, hne, hne'⟩ := hbl) | (obtain ⟨hcc, hff, HA, hne, hne'⟩ := blater1 hb)); (try simp only [World.size_alloc, World.size_setCell] at HA)) | (go_at_call 52; refine (q2 _).mono ?_; rintro e w1 ⟨rfl, hb⟩; have hsz := hb.size; (try simp at hsz); (first | (have hbl := blater2 HA (by first | exact Nat.le_refl _ | (simp; done) | (simp; omega)) hb; obtain ⟨hcc, hff, HA, hne, hne'⟩ := hbl) | (obtain ⟨hcc, hff, HA, hne, hne'⟩ := blater1 hb)); (try simp only [World.size_alloc, World.size_setCell] at HA)))))
  all_goals (try rw [Exit.noGoto_ret])
  all_goals go_light
  all_goals (refine ⟨.tuple #[.slice none 0 0, .int .i64 (chkL true [a, b, c])], by simp [results, Try.results16, go_sem, *], allPost_err _ ?_⟩; repeat' (first | exact Below.refl _ _ | refine Below.drew ?_ | refine below_drewN ?_ _ | refine Below.alloc ?_ (by first | omega | (simp <;> omega)) _ | refine Below.setCell ?_ (by first | omega | (simp <;> omega)) _ | refine Below.trans ?_ (Below.mono (by assumption) (by first | omega | (simp <;> omega)))))

theorem mall_e3 (s : ByteArray) (p e l d a b c lits : Int) (w : World) (hl : s.size ≤ 9223372036854775807) (hw : wchk s.size p e l = 0) (hc : chkL true [a, b, c] = 0) (hg : d < 1 ∨ 64 < d ∨ lits < 0) :
    Calls Try.prog 16 #[.string s, .int .i64 p, .int .i64 e, .int .i64 l, .int .i64 d, .agg #[.int .i64 a, .int .i64 b, .int .i64 c], .int .i64 lits] w (AllPost ([], 2) w) := by
  have q1 := fun w => wcheck_p s p e l w hl
  have q2 := fun w => check_p a b c w
  rw [hw] at q1
  rw [hc] at q2
  have hg2 : d < 1 ∨ (¬ d < 1 ∧ 64 < d) ∨ (¬ d < 1 ∧ ¬ 64 < d ∧ lits < 0) := by omega
  clear hg hw hc
  rcases hg2 with g1 | ⟨g1, g2⟩ | ⟨g1, g2, g3⟩
  all_goals
    refine calls_of_marks Try.func16 rfl ?_
    simp only [Try.ntmps16, List.size_toArray, List.length_cons, List.length_nil, Nat.reduceAdd, Nat.reduceSub, Array.replicate_succ, Array.replicate_zero, List.push_toArray, List.append_toArray, List.nil_append, List.cons_append]
    go_wp2_with (first | (go_at_call 51; refine (q1 _).mono ?_; rintro e w1 ⟨rfl, hb⟩; have hsz := hb.size; (try simp at hsz); (first | (have hbl := blater2 HA (by first | exact Nat.le_refl _ | (simp; done) | (simp; omega)) hb; obtain ⟨hcc, hff, HA, hne, hne'⟩ := hbl) | (obtain ⟨hcc, hff, HA, hne, hne'⟩ := blater1 hb)); (try simp only [World.size_alloc, World.size_setCell] at HA)) | (go_at_call 52; refine (q2 _).mono ?_; rintro e w1 ⟨rfl, hb⟩; have hsz := hb.size; (try simp at hsz); (first | (have hbl := blater2 HA (by first | exact Nat.le_refl _ | (simp; done) | (simp; omega)) hb; obtain ⟨hcc, hff, HA, hne, hne'⟩ := hbl) | (obtain ⟨hcc, hff, HA, hne, hne'⟩ := blater1 hb)); (try simp only [World.size_alloc, World.size_setCell] at HA)))
    repeat' (first | (go_region <;> go_wp2_with (first | (go_at_call 51; refine (q1 _).mono ?_; rintro e w1 ⟨rfl, hb⟩; have hsz := hb.size; (try simp at hsz); (first | (have hbl := blater2 HA (by first | exact Nat.le_refl _ | (simp; done) | (simp; omega)) hb; obtain ⟨hcc, hff, HA, hne, hne'⟩ := hbl) | (obtain ⟨hcc, hff, HA, hne, hne'⟩ := blater1 hb)); (try simp only [World.size_alloc, World.size_setCell] at HA)) | (go_at_call 52; refine (q2 _).mono ?_; rintro e w1 ⟨rfl, hb⟩; have hsz := hb.size; (try simp at hsz); (first | (have hbl := blater2 HA (by first | exact Nat.le_refl _ | (simp; done) | (simp; omega)) hb; obtain ⟨hcc, hff, HA, hne, hne'⟩ := hbl) | (obtain ⟨hcc, hff, HA, hne, hne'⟩ := blater1 hb)); (try simp only [World.size_alloc, World.size_setCell] at HA)))))
    all_goals (try rw [Exit.noGoto_ret])
    all_goals go_light
    all_goals (refine ⟨.tuple #[.slice none 0 0, .int .i64 2], by simp [results, Try.results16, go_sem, *], allPost_err _ ?_⟩; repeat' (first | exact Below.refl _ _ | refine Below.drew ?_ | refine below_drewN ?_ _ | refine Below.alloc ?_ (by first | omega | (simp <;> omega)) _ | refine Below.setCell ?_ (by first | omega | (simp <;> omega)) _ | refine Below.trans ?_ (Below.mono (by assumption) (by first | omega | (simp <;> omega)))))
/-- What All returns. -/
def Rall (s : ByteArray) (p e l d a b c lits : Int) : List (Int × Int × Int × Int) × Int :=
  if wchk s.size p e l ≠ 0 then ([], wchk s.size p e l)
  else if chkL true [a, b, c] ≠ 0 then ([], chkL true [a, b, c])
  else if d < 1 ∨ 64 < d ∨ lits < 0 then ([], 2)
  else (mofs s p.toNat e.toNat a b c lits (cands s p.toNat e.toNat l.toNat d.toNat), 0)
theorem mall_p (s : ByteArray) (p e l d a b c lits : Int) (w : World) (hl : s.size ≤ 9223372036854775807) :
    Calls Try.prog 16 #[.string s, .int .i64 p, .int .i64 e, .int .i64 l, .int .i64 d, .agg #[.int .i64 a, .int .i64 b, .int .i64 c], .int .i64 lits] w (AllPost (Rall s p e l d a b c lits) w) := by
  unfold Rall
  by_cases hw : wchk s.size p e l = 0
  · rw [if_neg (by simpa using hw)]
    by_cases hc : chkL true [a, b, c] = 0
    · rw [if_neg (by simpa using hc)]
      by_cases hg : d < 1 ∨ 64 < d ∨ lits < 0
      · rw [if_pos hg]
        exact mall_e3 s p e l d a b c lits w hl hw hc hg
      · rw [if_neg hg]
        obtain ⟨h1, h2, h3, h4, h5, h6⟩ := wchk_ok hw
        obtain ⟨p, rfl⟩ : ∃ n : Nat, p = (n : Int) := ⟨p.toNat, by omega⟩
        obtain ⟨e, rfl⟩ : ∃ n : Nat, e = (n : Int) := ⟨e.toNat, by omega⟩
        obtain ⟨l, rfl⟩ : ∃ n : Nat, l = (n : Int) := ⟨l.toNat, by omega⟩
        obtain ⟨d, rfl⟩ : ∃ n : Nat, d = (n : Int) := ⟨d.toNat, by omega⟩
        simp only [Int.toNat_natCast]
        have e5 : (candAll s p e l).take d = cands s p e l d := by
          unfold cands candAll
          split <;> simp
        exact mall_1 s p e l d a b c lits w h1 (by omega) (by omega) (by omega) (by omega) (by omega) (by omega) (by omega) hw hc _ e5
    · rw [if_pos hc]
      exact mall_e2 s p e l d a b c lits w hl hw (by simpa using hc)
  · rw [if_pos hw]
    exact mall_e1 s p e l d a b c lits w hl (by simpa using hw)
end Go.Proofs.Ytammacofhdbgcaa
