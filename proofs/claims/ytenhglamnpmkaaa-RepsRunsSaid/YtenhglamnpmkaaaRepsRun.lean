/-
  Run of package reps, walked.
-/
import Derived.Test.YtenhglamnpmkaaaRows
import Derived.Test.YtenhglamnpmkaaaRepsRunIter
import Derived.Test.YtenhglamnpmkaaaOwnMore
import Derived.WalkMore
import Derived.Test.YtenhglamnpmkaaaCommon
import Derived.Deep.Light
import Derived.Shelf.Abstract
import Derived.Shelf.RegionOpen
import Derived.OwnWalkIn
import Derived.TacticsInMore
import Derived.LoopNIn
import Derived.LoopIn
import Derived.Maps.OwnIn
namespace Go.Proofs.Ytenhglamnpmkaaa
open Go.RowKit
set_option linter.unusedSimpArgs false
set_option linter.unusedVariables false
open Go.Shelf
attribute [local go_sem] eq23 idx23_0 idx23_1 idx23_2 tup Oper.semAt_some

/-- As RunPost; the list lies in new memory. -/
def RunPost2 (R : List Int × (Int × Int × Int) × Int) (w : World) (e : Ending) (w' : World) : Prop :=
  ∃ pa ca, e = .returned (.tuple #[.slice pa R.1.length ca, .agg #[.int .i64 R.2.1.1, .int .i64 R.2.1.2.1, .int .i64 R.2.1.2.2], .int .i64 R.2.2]) ∧ (∀ g, (Value.slice pa R.1.length ca).ownBlock = some g → w.heap.size ≤ g) ∧ Row .i64 w' pa R.1 ∧ Below w.heap.size w w'
theorem runPost2_err (x : Int) {w w' : World} (hb : Below w.heap.size w w') : RunPost2 ([], (0, 0, 0), x) w (.returned (.tuple #[.slice none 0 0, .agg #[.int .i64 0, .int .i64 0, .int .i64 0], .int .i64 x])) w' :=
  ⟨none, 0, rfl, fun g h => by simp [Value.ownBlock] at h, .inl rfl, hb⟩
theorem But.keep {S : Nat → Prop} {W X Y : World} (h : But S W X) (hk : Keep W.heap.size X Y) : But S W Y :=
  ⟨hk.os.trans h.os, hk.tape.trans h.tape, hk.output.trans h.output, Nat.le_trans h.size hk.size, fun k o hn ho => hk.block k o (h.block k o hn ho) (.inl (Array.getElem?_eq_some_iff.1 ho).1)⟩
theorem But.mono {S S' : Nat → Prop} {X Y : World} (h : But S X Y) (hS : ∀ k, S k → S' k) : But S' X Y :=
  ⟨h.os, h.tape, h.output, h.size, fun k o hn ho => h.block k o (fun hs => hn (hS k hs)) ho⟩
theorem But.later {S : Nat → Prop} {W X Y : World} (h : But S W X) (hb : Below W.heap.size X Y) : But S W Y :=
  ⟨hb.os.trans h.os, hb.tape.trans h.tape, hb.output.trans h.output, Nat.le_trans h.size hb.size, fun k o hn ho => by rw [hb.block k (Array.getElem?_eq_some_iff.1 ho).1]; exact h.block k o hn ho⟩
theorem Hist.keep {B : Nat} {X Y : World} {b : Nat} {h : Int × Int × Int} (hh : Hist X b h) (hk : Keep B X Y) : Hist Y b h := by
  obtain ⟨h1, h2, h3, h4⟩ := hh
  obtain ⟨o, ho⟩ : ∃ o, X.heap[b]? = some o := ⟨_, Array.getElem?_eq_getElem (cell_lt h1)⟩
  have hc : o.isCells = true := by
    have h5 := h1
    unfold World.cell? at h5
    simp only [ho] at h5
    cases o <;> first | rfl | simp at h5
  exact ⟨hk.cell h1, hk.cell h2, hk.cell h3, fun j => by rw [← h4 j]; unfold World.frozen?; rw [hk.block b _ ho (.inr hc), ho]⟩
theorem Row.keep0 {k : IntKind} {B : Nat} {w w' : World} {a : Option Addr} {xs : List Int} (h : Row k w a xs) (hk : Keep B w w') : Row k w' a xs := by
  rcases h with h | ⟨b, off, ha, hlt, hc⟩
  · exact .inl h
  · exact .inr ⟨b, off, ha, Nat.lt_of_lt_of_le hlt hk.size, fun i hi => hk.cell (hc i hi)⟩
set_option maxHeartbeats 2000000 in
theorem run_1 (a b c : Int) (pq : Option Addr) (qs : List (Int × Int × Int)) (cq : Nat) (w : World) (hq : RowQ w pq qs) (hc : chkL true [a, b, c] = 0) (hn : qs.length ≤ 100000) :
    Calls Try.prog 34 #[.agg #[.int .i64 a, .int .i64 b, .int .i64 c], .slice pq qs.length cq] w (RunPost2 (rruns a b c qs) w) := by
  have hn1 : decide ((100000 : Int) < (qs.length : Int)) = false := by simp; omega
  refine calls_of_marks Try.func34 rfl ?_
  simp only [Try.ntmps34, List.size_toArray, List.length_cons, List.length_nil, Nat.reduceAdd, Nat.reduceSub, Array.replicate_succ, Array.replicate_zero, List.push_toArray, List.append_toArray, List.nil_append, List.cons_append]
  go_wp2
  go_step3
  go_wp2_with (first | (go_at_call 19; refine (check_p _ _ _ _).mono ?_; rintro e w1 ⟨rfl, hb⟩; have hsz := hb.size; (try simp at hsz); (first | (have hbl := blater2 HA (by first | exact Nat.le_refl _ | (simp; done) | (simp; omega)) hb; obtain ⟨hcc, hff, HA, hne, hne'⟩ := hbl) | (obtain ⟨hcc, hff, HA, hne, hne'⟩ := blater1 hb)); (try simp only [World.size_alloc, World.size_setCell] at HA)) | go_in)
  repeat' (first | (go_region <;> go_wp2_with (first | (go_at_call 19; refine (check_p _ _ _ _).mono ?_; rintro e w1 ⟨rfl, hb⟩; have hsz := hb.size; (try simp at hsz); (first | (have hbl := blater2 HA (by first | exact Nat.le_refl _ | (simp; done) | (simp; omega)) hb; obtain ⟨hcc, hff, HA, hne, hne'⟩ := hbl) | (obtain ⟨hcc, hff, HA, hne, hne'⟩ := blater1 hb)); (try simp only [World.size_alloc, World.size_setCell] at HA)) | go_in)))
  obtain ⟨W0, hW0⟩ : ∃ W0, ((w1.setCell ⟨w.heap.size + 1 + 1 + 1, 0, none⟩ (.int .i64 a)).setCell ⟨w.heap.size + 1 + 1 + 1, 1, none⟩ (.int .i64 b)).setCell ⟨w.heap.size + 1 + 1 + 1, 2, none⟩ (.int .i64 c) = W0 := ⟨_, rfl⟩
  have B0 : Below w.heap.size w W0 := by
    rw [← hW0]
    repeat' (first | exact Below.refl _ _ | refine Below.drew ?_ | refine below_drewN ?_ _ | refine Below.alloc ?_ (by first | omega | (simp <;> omega)) _ | refine Below.setCell ?_ (by first | omega | (simp <;> omega)) _ | refine Below.trans ?_ (Below.mono (by assumption) (by first | omega | (simp <;> omega))))
  have S0 : w.heap.size + 5 ≤ W0.heap.size := by rw [← hW0]; simp; omega
  have x1 : W0.cell? ⟨w.heap.size + 1, 0, none⟩ = some (.slice pq qs.length cq) := by rw [← hW0]; clear hW0; simp [go_sem, *]
  have x2 : W0.cell? ⟨w.heap.size + 1 + 1, 0, none⟩ = some (.slice none 0 0) := by rw [← hW0]; clear hW0; simp [go_sem, *]
  have f2 : W0.frozen? ⟨w.heap.size + 1 + 1, 0, none⟩ = false := by rw [← hW0]; clear hW0; simp [go_sem, *]
  have x3 : Hist W0 (w.heap.size + 1 + 1 + 1) (a, b, c) := by rw [← hW0]; clear hW0; exact ⟨by simp [go_sem, *], by simp [go_sem, *], by simp [go_sem, *], fun j => by simp [go_sem, *]⟩
  have x4 : W0.cell? ⟨w.heap.size + 1 + 1 + 1 + 1, 0, none⟩ = some (.int .i64 0) := by rw [← hW0]; clear hW0; simp [go_sem, *]
  have f4 : W0.frozen? ⟨w.heap.size + 1 + 1 + 1 + 1, 0, none⟩ = false := by rw [← hW0]; clear hW0; simp [go_sem, *]
  rw [hW0]
  clear hW0 hcc hff HA hne hne' hsz hb hn1
  obtain ⟨bl, hbl⟩ : ∃ n, w.heap.size + 1 = n := ⟨_, rfl⟩
  obtain ⟨bd, hbd⟩ : ∃ n, bl + 1 = n := ⟨_, rfl⟩
  obtain ⟨bn, hbn⟩ : ∃ n, bd + 1 = n := ⟨_, rfl⟩
  obtain ⟨bf, hbf⟩ : ∃ n, bn + 1 = n := ⟨_, rfl⟩
  rw [hbl] at x1
  rw [hbl, hbd] at x2 f2
  rw [hbl, hbd, hbn] at x3
  rw [hbl, hbd, hbn, hbf] at x4 f4
  (try simp only [hbl, hbd, hbn, hbf])
  go_step3
  go_wp2_with (go_in)
  obtain ⟨i3, hi3, hz0, hz1, hz2⟩ := info_parts info3
  refine wp_rangeK_box (gf := 60) (lb := #[.pointer (some ⟨bl, 0, none⟩), .pointer (some ⟨bn, 0, none⟩)]) rfl (enters_of Try.func60 (by kernel_rfl) rfl) (fun k => k = bn) (fun k h => by omega) qs.length (fun i => #[.agg #[.int .i64 (rak (a, b, c) qs i).1, .int .i64 (rak (a, b, c) qs i).2.2]]) (fun _ => rfl)
    (fun i W => ∃ ad cap, W.cell? ⟨bd, 0, none⟩ = some (.slice ad i cap) ∧ W.frozen? ⟨bd, 0, none⟩ = false ∧ W.cell? ⟨bf, 0, none⟩ = some (.int .i64 0) ∧ W.frozen? ⟨bf, 0, none⟩ = false ∧ W.cell? ⟨bl, 0, none⟩ = some (.slice pq qs.length cq) ∧ W.ownsRow W0.heap.size 3 1 (.slice ad i cap) i (((List.range i).map fun j => (rak (a, b, c) qs j).1).map (Value.int .i64)) ∧ (∀ j, j < i → (rak (a, b, c) qs j).2.2 = 0) ∧ But (fun k => k = bn ∨ k = bd ∨ k = bf) W0 W)
    (fun co W => co = .exit 0 ∧ ∃ i ad, i < qs.length ∧ W.cell? ⟨bd, 0, none⟩ = some ad ∧ W.frozen? ⟨bd, 0, none⟩ = false ∧ W.cell? ⟨bf, 0, none⟩ = some (.int .i64 (rak (a, b, c) qs i).2.2) ∧ W.frozen? ⟨bf, 0, none⟩ = false ∧ (rak (a, b, c) qs i).2.2 ≠ 0 ∧ (∀ j, j < i → (rak (a, b, c) qs j).2.2 = 0) ∧ But (fun k => k = bn ∨ k = bd ∨ k = bf) W0 W)
    (fun i x W => W.cell? ⟨x, 0, none⟩ = some (.int .i64 (rak (a, b, c) qs i).1) ∧ W.cell? ⟨x, 1, none⟩ = some (.int .i64 (rak (a, b, c) qs i).2.2) ∧ W0.heap.size ≤ x)
    ?hI ?hIS (fun W => Hist W bn (rsts (a, b, c) qs qs.length)) (fun W => ∃ h, Hist W bn h) ?hF ?hG ?hIx ?hBx ?h0 ?hround ?hiter ?hdone ?hstop
  case hI =>
    rintro i X Y hk ⟨ad, cap, y1, y2, y3, y4, y5, y6, y7, y8⟩
    exact ⟨ad, cap, hk.cell y1, (hk.frozen y1).trans y2, hk.cell y3, (hk.frozen y3).trans y4, hk.cell y5, hk.ownsRow y6, y7, y8.keep hk⟩
  case hIS =>
    rintro i X Y hb ⟨ad, cap, y1, y2, y3, y4, y5, y6, y7, y8⟩
    exact ⟨ad, cap, hb.cell (by simp; omega) y1, (hb.frozen (by simp; omega) y1).trans y2, hb.cell (by simp; omega) y3, (hb.frozen (by simp; omega) y3).trans y4, hb.cell (by simp; omega) y5, hb.ownsRow y6 (fun k hk => by omega), y7, y8.trans (hb.mono fun k hk => .inl hk)⟩
  case hF =>
    intro X Y hk h
    exact h.keep hk
  case hG =>
    rintro X Y hk ⟨h, hh⟩
    exact ⟨h, hh.keep hk⟩
  case hIx =>
    rintro co X Y hk ⟨y0, i, ad, y1, y2, y3, y4, y5, y6, y7, y8⟩
    exact ⟨y0, i, ad, y1, hk.cell y2, (hk.frozen y2).trans y3, hk.cell y4, (hk.frozen y4).trans y5, y6, y7, y8.keep hk⟩
  case hBx =>
    rintro i x X Y hk ⟨y1, y2, y3⟩
    exact ⟨hk.cell y1, hk.cell y2, y3⟩
  case h0 =>
    exact ⟨none, 0, x2, f2, x4, f4, x1, World.ownsRow_nil _ _ _ _, fun j hj => by omega, But.refl _ _⟩
  case hround =>
    intro l' i W hi hI hl'
    have HI := Lib.hid hI
    obtain ⟨rd, hrd⟩ : ∃ x, (rak (a, b, c) qs i).1 = x := ⟨_, rfl⟩
    obtain ⟨re, hre⟩ : ∃ x, (rak (a, b, c) qs i).2.2 = x := ⟨_, rfl⟩
    have hmp : (List.range (i + 1)).map (fun j => (rak (a, b, c) qs j).1) = (List.range i).map (fun j => (rak (a, b, c) qs j).1) ++ [rd] := by
      rw [List.range_succ, List.map_append, ← hrd]
      rfl
    have HMP := Lib.hid hmp
    have HRE := Lib.hid hre
    simp only [hrd, hre]
    clear hI hmp hrd hre
    gi_wp2
    have hal : Below W.heap.size W (W.alloc (.cells #[.int .i64 rd, .int .i64 re] 81)) := (Below.refl _ W).alloc (Nat.le_refl _) _
    have hsW : W0.heap.size ≤ W.heap.size := by obtain ⟨ad, cap, y1, y2, y3, y4, y5, y6, y7, y8⟩ := HI.out; exact y8.size
    refine ⟨keepsFrom_of_below hal, Stay.of_below hal, ?_, W.heap.size, ⟨by simp [go_sem], by simp [go_sem], hsW⟩, ?_⟩
    · obtain ⟨ad, cap, y1, y2, y3, y4, y5, y6, y7, y8⟩ := HI.out
      have hk := Keep.of_below (B := W0.heap.size) hal
      exact ⟨ad, cap, hk.cell y1, (hk.frozen y1).trans y2, hk.cell y3, (hk.frozen y3).trans y4, hk.cell y5, hk.ownsRow y6, y7, y8.keep hk⟩
    clear hal HI
    rintro W2 hl2 ⟨ad, cap, y1, y2, y3, y4, y5, y6, y7, y8⟩ ⟨z1, z2, z3⟩
    obtain ⟨X, hX⟩ : ∃ X, W.heap.size = X := ⟨_, rfl⟩
    rw [hX] at z1 z2 z3 ⊢
    clear hX hsW
    have HY6 := Lib.hid y6
    have HY7 := Lib.hid y7
    have HY8 := Lib.hid y8
    have hs8 := y8.size
    have hnf : ¬ bf = bd := by omega
    have hnf2 : ¬ bd = bf := by omega
    have hnf3 : ¬ bf = X := by omega
    have hnf4 : ¬ bd = X := by omega
    have hlf : bf < W2.heap.size := by omega
    have hld : bd < W2.heap.size := by omega
    have hnl : ¬ bf = bl := by omega
    have hnl2 : ¬ bd = bl := by omega
    clear y6 y7 y8
    by_cases he : re = 0
    · have HE := Lib.hid he
      subst he
      have hown : (W2.setCell ⟨bf, 0, none⟩ (.int .i64 0)).ownsRow W0.heap.size 3 1 (.slice ad i cap) i (((List.range i).map fun j => (rak (a, b, c) qs j).1).map (Value.int .i64)) := ownsRow_setCell_below HY6.out (by simp; omega) _
      have HOWN := Lib.hid hown
      clear hown
      have v1 : (W2.setCell ⟨bf, 0, none⟩ (.int .i64 0)).cell? ⟨bd, 0, none⟩ = some (.slice ad i cap) := by simp [go_sem, hnf, y1]
      have v2 : (W2.setCell ⟨bf, 0, none⟩ (.int .i64 0)).frozen? ⟨bd, 0, none⟩ = false := by simp [go_sem, hnf, y2]
      have v3 : (W2.setCell ⟨bf, 0, none⟩ (.int .i64 0)).cell? ⟨bf, 0, none⟩ = some (.int .i64 0) := by simp [go_sem, y3]
      have v4 : (W2.setCell ⟨bf, 0, none⟩ (.int .i64 0)).frozen? ⟨bf, 0, none⟩ = false := by simp [go_sem, y4]
      have v5 : (W2.setCell ⟨bf, 0, none⟩ (.int .i64 0)).cell? ⟨bl, 0, none⟩ = some (.slice pq qs.length cq) := by simp [go_sem, hnl, y5]
      have CN : ∀ (v : Value) (t : TypeId), ∀ (j : Nat) (u : Value), [v][j]? = some u → ((W2.setCell ⟨bf, 0, none⟩ (.int .i64 0)).alloc (.cells #[v] t)).cell? ((⟨W2.heap.size, 0, none⟩ : Addr).add j) = some u := fun v t => by
        have := cell_one_new (W2.setCell ⟨bf, 0, none⟩ (.int .i64 0)) v t
        rwa [World.size_setCell] at this
      gi_wp2_with (gi_at_builtin; refine wpListIn_append_own_at _ rfl _ _ 38 rfl W0.heap.size 3 i3 (.int .i64 0) 1 8 Try.underlying38 hi3 hz0 hz1 hz2 rfl (by decide) _ _ _ rfl (HOWN.out.alloc _) ⟨W2.heap.size, 0, none⟩ 1 1 [.int .i64 rd] rfl rfl (CN _ _) (one_int_o _ _) ?_ ?_ ?_ ?_; (unfold maxLen; omega); omega; (simp; omega); intro v' w4 ho' hg4 hnil hat; obtain ⟨ad', cap', rfl⟩ := own_slice_o ho'; have hb4 : Below W0.heap.size (W2.setCell ⟨bf, 0, none⟩ (.int .i64 0)) w4 := ((Below.refl _ _).alloc (by simp; omega) _).grown hg4 (by simp; omega) (own_base_o HY6.out); have u1 := (hb4.cell (p := ⟨bd, 0, none⟩) (by simp; omega)).trans v1; have u2 := (hb4.frozen (p := ⟨bd, 0, none⟩) (by simp; omega)).trans v2; have u3 := (hb4.cell (p := ⟨bf, 0, none⟩) (by simp; omega)).trans v3; have u4 := (hb4.frozen (p := ⟨bf, 0, none⟩) (by simp; omega)).trans v4; have u5 := (hb4.cell (p := ⟨bl, 0, none⟩) (by simp; omega)).trans v5)
      have hs4 := hg4.size
      simp at hs4
      have hKF : KeepsFrom W0.heap.size W2 (w4.setCell ⟨bd, 0, none⟩ (.slice ad' (i + 1) cap')) := (((KeepsOthers.setCell _ _ _).from _).trans ((keepsFrom_of_below ((Below.refl _ _).alloc (Nat.le_refl _) _)).trans (keepsFrom_grown_o hg4 (own_cells_o (HOWN.out.alloc _))))).trans ((KeepsOthers.setCell _ _ _).from _)
      have hBU : But (fun k => k = bn ∨ k = bd ∨ k = bf) W0 (w4.setCell ⟨bd, 0, none⟩ (.slice ad' (i + 1) cap')) := ((HY8.out.trans (But.setCell _ _ (.inr (.inr rfl)))).later hb4).trans (But.setCell _ _ (.inr (.inl rfl)))
      have hST : Stay (fun k => k = bn) W2 (w4.setCell ⟨bd, 0, none⟩ (.slice ad' (i + 1) cap')) := (((Stay.setCell W2 (a := ⟨bf, 0, none⟩) (.int .i64 0) (by simp; omega)).trans (Stay.of_below ((Below.refl _ _).alloc (Nat.le_refl _) _))).trans (Stay.of_grown hg4 (fun g hg => by have := own_base_o HY6.out g hg; simp; omega))).trans (Stay.setCell w4 (a := ⟨bd, 0, none⟩) _ (by simp; omega))
      have hO5 : (w4.setCell ⟨bd, 0, none⟩ (.slice ad' (i + 1) cap')).ownsRow W0.heap.size 3 1 (.slice ad' (i + 1) cap') (i + 1) (((List.range (i + 1)).map fun j => (rak (a, b, c) qs j).1).map (Value.int .i64)) := by
        rw [HMP.out, List.map_append]
        exact ownsRow_setCell_below ho' (by simp; omega) _
      have hE5 : ∀ j, j < i + 1 → (rak (a, b, c) qs j).2.2 = 0 := fun j hj => by
        by_cases h : j = i
        · subst h; exact HRE.out
        · exact HY7.out j (by omega)
      refine ⟨hKF, ⟨ad', cap', by simp [go_sem, u1], by simp [go_sem, u2], by simp [go_sem, hnf, hnf2, u3], by simp [go_sem, hnf, hnf2, u4], by simp [go_sem, hnl, hnl2, u5], ?_, hE5, hBU⟩, hST⟩
      simpa [List.range_succ] using hO5
    · have he2 : (re == 0) = false := by simpa using he
      have he3 : (re != 0) = true := by simpa using he
      gi_wp2
      refine ⟨(KeepsOthers.setCell _ _ _).from _, ⟨rfl, i, .slice ad i cap, hi, ?_, ?_, ?_, ?_, ?_, HY7.out, HY8.out.trans (But.setCell _ _ (.inr (.inr rfl)))⟩, Stay.setCell W2 (a := ⟨bf, 0, none⟩) _ (by simp; omega)⟩
      · simp [go_sem, hnf, hnf2, y1]
      · simp [go_sem, hnf, hnf2, y2]
      · rw [HRE.out]; simp [go_sem, y3]
      · simp [go_sem, y4]
      · rw [HRE.out]; exact he
  case hiter =>
    intro l' J Jx W hb hst hJI _ hr hj
    have hbs := hb.size
    exact run_iter qs pq cq bl bn l' (a, b, c) (by omega) J Jx W hst (fun i X h => by
      obtain ⟨ad, cap, y1, y2, y3, y4, y5, y6, y7, y8⟩ := hJI i X h
      exact ⟨y5, hq.later (y8.below B0 (fun k hk => by omega) (by omega))⟩) hr hj (x3.later hb)
  case hdone =>
    rintro D W hD ⟨ad, cap, y1, y2, y3, y4, y5, y6, y7, y8⟩ hF hdf
    obtain ⟨g1, g2, g3, g4⟩ := hF
    have HY6 := Lib.hid y6
    have HRR := Lib.hid (rruns_all (a, b, c) qs y7)
    obtain ⟨⟨x, y, z⟩, hxyz⟩ : ∃ h, rsts (a, b, c) qs qs.length = h := ⟨_, rfl⟩
    rw [hxyz] at g1 g2 g3
    have HX := Lib.hid hxyz
    have hD1 : ¬ D = bd := by omega
    have hD2 : ¬ D = bn := by omega
    have hD3 : ¬ D = bf := by omega
    have hn1 : ¬ bn = bd := by omega
    have hn2 : ¬ bd = bn := by omega
    have hn3 : ¬ bf = bd := by omega
    have hn4 : ¬ bd = bf := by omega
    have hn5 : ¬ bn = bf := by omega
    have hn6 : ¬ bf = bn := by omega
    clear y6 y7 hxyz y5
    dsimp only at g1 g2 g3
    go_wp2
    go_region
    obtain ⟨V, hV⟩ : ∃ V, (((((W.setCell ⟨bd, 0, none⟩ (.slice ad qs.length cap)).setCell ⟨bn, 0, none⟩ (.int .i64 x)).setCell ⟨bn, 1, none⟩ (.int .i64 y)).setCell ⟨bn, 2, none⟩ (.int .i64 z)).setCell ⟨bf, 0, none⟩ (.int .i64 0)).drew = V := ⟨_, rfl⟩
    have v0 : V.heap[D]? = some (.deferred (some [])) := by rw [← hV]; exact drew_deferred (setCell_deferred (setCell_deferred (setCell_deferred (setCell_deferred (setCell_deferred hdf _ _) _ _) _ _) _ _) _ _)
    have v1 : V.cell? ⟨bd, 0, none⟩ = some (.slice ad qs.length cap) := by rw [← hV]; simp [go_sem, hn1, hn2, hn3, hn4, hn5, hn6, y1]
    have v2 : V.cell? ⟨bn, 0, none⟩ = some (.int .i64 x) := by rw [← hV]; simp [go_sem, hn1, hn2, hn3, hn4, hn5, hn6, g1, g2, g3]
    have v3 : V.cell? ⟨bn, 1, none⟩ = some (.int .i64 y) := by rw [← hV]; simp [go_sem, hn1, hn2, hn3, hn4, hn5, hn6, g1, g2, g3]
    have v4 : V.cell? ⟨bn, 2, none⟩ = some (.int .i64 z) := by rw [← hV]; simp [go_sem, hn1, hn2, hn3, hn4, hn5, hn6, g1, g2, g3]
    have v5 : V.cell? ⟨bf, 0, none⟩ = some (.int .i64 0) := by rw [← hV]; simp [go_sem, hn1, hn2, hn3, hn4, hn5, hn6, y3]
    have vO : ∀ g, (Value.slice ad qs.length cap).ownBlock = some g → W0.heap.size ≤ g := own_base_o HY6.out
    have hs8 := y8.size
    have vB : Below w.heap.size w V := by
      rw [← hV]
      exact ((((((y8.below B0 (fun k hk => by omega) (by omega)).setCell (by simp; omega) _).setCell (by simp; omega) _).setCell (by simp; omega) _).setCell (by simp; omega) _).setCell (by simp; omega) _).drew
    have vR : Row .i64 V ad ((List.range qs.length).map fun j => (rak (a, b, c) qs j).1) := by
      rw [← hV]
      exact Row.later (Row.of_own_slice (k := .i64) (ownsRow_setCell_below (ownsRow_setCell_below (ownsRow_setCell_below (ownsRow_setCell_below (ownsRow_setCell_below HY6.out (by simp; omega) _) (by simp; omega) _) (by simp; omega) _) (by simp; omega) _) (by simp; omega) _)) (Below.refl _ _).drew
    rw [hV]
    clear hV
    clear y1 y2 y3 y4 y8 g1 g2 g3 g4 hdf HY6
    go_wp2
    refine ⟨by simp, .inl ⟨_, _, rfl, run_takeDeferred v0, ?_⟩⟩
    go_light
    refine ⟨.tuple #[.slice ad qs.length cap, .agg #[.int .i64 x, .int .i64 y, .int .i64 z], .int .i64 0], by simp [results, Try.results34, go_sem, cell?_putDeferred v0, v1, v2, v3, v4, v5], ?_⟩
    have hRR := HRR.out
    rw [hRR, HX.out]
    refine ⟨ad, cap, by simp, fun g hg => by have := vO g (by simpa [Value.ownBlock] using hg); omega, ?_, below_putObj vB (by omega) _⟩
    exact vR.keep0 (Keep.putObj (B := 0) (.deferred none) (by omega) v0 rfl)
  case hstop =>
    rintro D co W hD ⟨rfl, i, ad, y1, y2, y3, y4, y5, y6, y7, y8⟩ ⟨⟨x, y, z⟩, g1, g2, g3, g4⟩ hdf
    have HRR := Lib.hid (rruns_stop (a, b, c) qs i y1 y7 y6)
    obtain ⟨re, hre⟩ : ∃ x, (rak (a, b, c) qs i).2.2 = x := ⟨_, rfl⟩
    rw [hre] at y4 y6
    have HRE := Lib.hid hre
    have hn1 : ¬ bn = bd := by omega
    have hn2 : ¬ bd = bn := by omega
    have hn3 : ¬ bf = bd := by omega
    have hn4 : ¬ bd = bf := by omega
    have hn5 : ¬ bn = bf := by omega
    have hn6 : ¬ bf = bn := by omega
    clear y7 hre
    dsimp only at g1 g2 g3
    have he2 : (re == 0) = false := by simpa using y6
    have he3 : (re != 0) = true := by simpa using y6
    go_wp2
    go_region
    obtain ⟨V, hV⟩ : ∃ V, (((((W.setCell ⟨bd, 0, none⟩ (.slice none 0 0)).setCell ⟨bn, 0, none⟩ (.int .i64 0)).setCell ⟨bn, 1, none⟩ (.int .i64 0)).setCell ⟨bn, 2, none⟩ (.int .i64 0)).setCell ⟨bf, 0, none⟩ (.int .i64 re)).drew = V := ⟨_, rfl⟩
    have v0 : V.heap[D]? = some (.deferred (some [])) := by rw [← hV]; exact drew_deferred (setCell_deferred (setCell_deferred (setCell_deferred (setCell_deferred (setCell_deferred hdf _ _) _ _) _ _) _ _) _ _)
    have v1 : V.cell? ⟨bd, 0, none⟩ = some (.slice none 0 0) := by rw [← hV]; simp [go_sem, hn1, hn2, hn3, hn4, hn5, hn6, y2]
    have v2 : V.cell? ⟨bn, 0, none⟩ = some (.int .i64 0) := by rw [← hV]; simp [go_sem, hn1, hn2, hn3, hn4, hn5, hn6, g1, g2, g3]
    have v3 : V.cell? ⟨bn, 1, none⟩ = some (.int .i64 0) := by rw [← hV]; simp [go_sem, hn1, hn2, hn3, hn4, hn5, hn6, g1, g2, g3]
    have v4 : V.cell? ⟨bn, 2, none⟩ = some (.int .i64 0) := by rw [← hV]; simp [go_sem, hn1, hn2, hn3, hn4, hn5, hn6, g1, g2, g3]
    have v5 : V.cell? ⟨bf, 0, none⟩ = some (.int .i64 re) := by rw [← hV]; simp [go_sem, hn1, hn2, hn3, hn4, hn5, hn6, y4]
    have hs8 := y8.size
    have vB : Below w.heap.size w V := by
      rw [← hV]
      exact ((((((y8.below B0 (fun k hk => by omega) (by omega)).setCell (by simp; omega) _).setCell (by simp; omega) _).setCell (by simp; omega) _).setCell (by simp; omega) _).setCell (by simp; omega) _).drew
    rw [hV]
    clear hV
    clear y2 y3 y4 y5 y8 g1 g2 g3 g4 hdf
    go_wp2
    refine ⟨by simp, .inl ⟨_, _, rfl, run_takeDeferred v0, ?_⟩⟩
    go_light
    refine ⟨.tuple #[.slice none 0 0, .agg #[.int .i64 0, .int .i64 0, .int .i64 0], .int .i64 re], by simp [results, Try.results34, go_sem, cell?_putDeferred v0, v1, v2, v3, v4, v5], ?_⟩
    have hRR := HRR.out
    rw [hRR, HRE.out]
    exact runPost2_err re (below_putObj vB (by omega) _)

set_option maxHeartbeats 1000000 in
theorem run_e1 (a b c : Int) (pq : Option Addr) (qs : List (Int × Int × Int)) (cq : Nat) (w : World) (hc : (chkL true [a, b, c] != 0) = true) :
    Calls Try.prog 34 #[.agg #[.int .i64 a, .int .i64 b, .int .i64 c], .slice pq qs.length cq] w (RunPost2 ([], (0, 0, 0), chkL true [a, b, c]) w) := by
  refine calls_of_marks Try.func34 rfl ?_
  simp only [Try.ntmps34, List.size_toArray, List.length_cons, List.length_nil, Nat.reduceAdd, Nat.reduceSub, Array.replicate_succ, Array.replicate_zero, List.push_toArray, List.append_toArray, List.nil_append, List.cons_append]
  go_wp2
  go_step3
  go_wp2_with (first | (go_at_call 19; refine (check_p _ _ _ _).mono ?_; rintro e w1 ⟨rfl, hb⟩; have hsz := hb.size; (try simp at hsz); (first | (have hbl := blater2 HA (by first | exact Nat.le_refl _ | (simp; done) | (simp; omega)) hb; obtain ⟨hcc, hff, HA, hne, hne'⟩ := hbl) | (obtain ⟨hcc, hff, HA, hne, hne'⟩ := blater1 hb)); (try simp only [World.size_alloc, World.size_setCell] at HA)) | go_in)
  repeat' (first | (go_region <;> go_wp2_with (first | (go_at_call 19; refine (check_p _ _ _ _).mono ?_; rintro e w1 ⟨rfl, hb⟩; have hsz := hb.size; (try simp at hsz); (first | (have hbl := blater2 HA (by first | exact Nat.le_refl _ | (simp; done) | (simp; omega)) hb; obtain ⟨hcc, hff, HA, hne, hne'⟩ := hbl) | (obtain ⟨hcc, hff, HA, hne, hne'⟩ := blater1 hb)); (try simp only [World.size_alloc, World.size_setCell] at HA)) | go_in)))
  all_goals (try rw [Exit.noGoto_ret])
  all_goals go_light
  all_goals (refine ⟨.tuple #[.slice none 0 0, .agg #[.int .i64 0, .int .i64 0, .int .i64 0], .int .i64 (chkL true [a, b, c])], by simp [results, Try.results34, go_sem, *], runPost2_err _ ?_⟩; repeat' (first | exact Below.refl _ _ | refine Below.drew ?_ | refine below_drewN ?_ _ | refine Below.alloc ?_ (by first | omega | (simp <;> omega)) _ | refine Below.setCell ?_ (by first | omega | (simp <;> omega)) _ | refine Below.trans ?_ (Below.mono (by assumption) (by first | omega | (simp <;> omega)))))

set_option maxHeartbeats 1000000 in
theorem run_e2 (a b c : Int) (pq : Option Addr) (qs : List (Int × Int × Int)) (cq : Nat) (w : World) (hc : chkL true [a, b, c] = 0) (hn : 100000 < qs.length) (hm : qs.length ≤ 9223372036854775807) :
    Calls Try.prog 34 #[.agg #[.int .i64 a, .int .i64 b, .int .i64 c], .slice pq qs.length cq] w (RunPost2 ([], (0, 0, 0), 6) w) := by
  have hn1 : decide ((100000 : Int) < (qs.length : Int)) = true := by simp; omega
  refine calls_of_marks Try.func34 rfl ?_
  simp only [Try.ntmps34, List.size_toArray, List.length_cons, List.length_nil, Nat.reduceAdd, Nat.reduceSub, Array.replicate_succ, Array.replicate_zero, List.push_toArray, List.append_toArray, List.nil_append, List.cons_append]
  go_wp2
  go_step3
  go_wp2_with (first | (go_at_call 19; refine (check_p _ _ _ _).mono ?_; rintro e w1 ⟨rfl, hb⟩; have hsz := hb.size; (try simp at hsz); (first | (have hbl := blater2 HA (by first | exact Nat.le_refl _ | (simp; done) | (simp; omega)) hb; obtain ⟨hcc, hff, HA, hne, hne'⟩ := hbl) | (obtain ⟨hcc, hff, HA, hne, hne'⟩ := blater1 hb)); (try simp only [World.size_alloc, World.size_setCell] at HA)) | go_in)
  repeat' (first | (go_region <;> go_wp2_with (first | (go_at_call 19; refine (check_p _ _ _ _).mono ?_; rintro e w1 ⟨rfl, hb⟩; have hsz := hb.size; (try simp at hsz); (first | (have hbl := blater2 HA (by first | exact Nat.le_refl _ | (simp; done) | (simp; omega)) hb; obtain ⟨hcc, hff, HA, hne, hne'⟩ := hbl) | (obtain ⟨hcc, hff, HA, hne, hne'⟩ := blater1 hb)); (try simp only [World.size_alloc, World.size_setCell] at HA)) | go_in)))
  all_goals (try rw [Exit.noGoto_ret])
  all_goals go_light
  all_goals (refine ⟨.tuple #[.slice none 0 0, .agg #[.int .i64 0, .int .i64 0, .int .i64 0], .int .i64 (6)], by simp [results, Try.results34, go_sem, *], runPost2_err _ ?_⟩; repeat' (first | exact Below.refl _ _ | refine Below.drew ?_ | refine below_drewN ?_ _ | refine Below.alloc ?_ (by first | omega | (simp <;> omega)) _ | refine Below.setCell ?_ (by first | omega | (simp <;> omega)) _ | refine Below.trans ?_ (Below.mono (by assumption) (by first | omega | (simp <;> omega)))))

theorem run_p (a b c : Int) (pq : Option Addr) (qs : List (Int × Int × Int)) (cq : Nat) (w : World) (hq : RowQ w pq qs) (hm : qs.length ≤ 9223372036854775807) :
    Calls Try.prog 34 #[.agg #[.int .i64 a, .int .i64 b, .int .i64 c], .slice pq qs.length cq] w (RunPost2 (Rruns a b c qs) w) := by
  unfold Rruns
  split
  · rename_i h; exact run_e1 a b c pq qs cq w (by simpa using h)
  · rename_i h
    have hc : chkL true [a, b, c] = 0 := by simpa using h
    split
    · rename_i h2; exact run_e2 a b c pq qs cq w hc h2 hm
    · rename_i h2; exact run_1 a b c pq qs cq w hq hc (by omega)
end Go.Proofs.Ytenhglamnpmkaaa
