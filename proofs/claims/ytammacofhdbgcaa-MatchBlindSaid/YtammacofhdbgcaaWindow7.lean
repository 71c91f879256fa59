/-
  The candidates of a place, and the nearest one, walked.
-/
import Derived.Test.YtammacofhdbgcaaRows
import Derived.Test.YtammacofhdbgcaaWindow6
import Derived.WalkMore
import Derived.Test.YtammacofhdbgcaaCommon
import Derived.Deep.Light
import Derived.Shelf.Abstract
import Derived.Shelf.RegionOpen
import Derived.OwnWalkIn
import Derived.TacticsInMore
import Derived.LoopNIn
import Derived.LoopIn
import Derived.Maps.OwnIn
namespace Go.Proofs.Ytammacofhdbgcaa
open Go.RowKit
set_option linter.unusedSimpArgs false
set_option linter.unusedVariables false
open Go.Shelf
attribute [local go_sem] Oper.semAt_some

theorem st_slice {P : Program} (w : World) (a : Addr) (b : Option Addr) (n c : Nat) (m : Mode) : (store a (.slice b n c) m).run P w = stored P w a (.slice b n c) m := run_store P w a _ m rfl
theorem own_slice {w : World} {base : Nat} {e : TypeId} {v : Value} {n : Nat} {xs : List Value} (h : w.ownsRow base e 1 v n xs) : ∃ a cap, v = .slice a n cap := by
  rcases h.2 with ⟨rfl, rfl⟩ | ⟨g, cap, cur, rfl, _⟩
  · exact ⟨none, 0, rfl⟩
  · exact ⟨_, cap, rfl⟩
theorem own_cap {w : World} {base : Nat} {e : TypeId} {a : Option Addr} {n m cap : Nat} {xs : List Value} (h : w.ownsRow base e 1 (.slice a m cap) n xs) : m ≤ cap := by
  rcases h.2 with ⟨h1, rfl⟩ | ⟨g, cap', cur, h1, _, _, h2, _⟩
  · simp at h1; omega
  · simp at h1; omega
theorem own_cells {w : World} {base : Nat} {e : TypeId} {v : Value} {n : Nat} {xs : List Value} (h : w.ownsRow base e 1 v n xs) : ∀ g, v.ownBlock = some g → ∃ c t q, w.heap[g]? = some (.cells c t q) := by
  intro g hg
  rcases h.2 with ⟨rfl, rfl⟩ | ⟨g', cap, cur, rfl, _, hh, _⟩
  · cases hg
  · cases hg; exact ⟨_, _, _, hh⟩
theorem grown_setCell (w : World) (a : Addr) (v : Value) : w.grownBy (w.setCell a v) (some a.block) :=
  ⟨rfl, rfl, rfl, by simp, fun k hk hne => by
    have : a.block ≠ k := fun e => hne (by rw [e])
    simp [World.setCell, Array.getElem?_modify, this]⟩
theorem keepsFrom_grown {B : Nat} {w w' : World} {row : Option Nat} (h : w.grownBy w' row) (hr : ∀ g, row = some g → ∃ c t q, w.heap[g]? = some (.cells c t q)) : KeepsFrom B w w' :=
  ⟨h.size, fun k o _ hk ho => by
    rw [h.block k (Array.getElem?_eq_some_iff.1 hk).1 (fun e => by
      obtain ⟨c, t, q, h2⟩ := hr k e.symm
      rw [hk] at h2
      cases h2
      simp [Obj.isCells] at ho)]
    exact hk⟩
theorem Row.keep {k : IntKind} {B : Nat} {w w' : World} {a : Option Addr} {xs : List Int} (h : Row k w a xs) (hk : Keep B w w') : Row k w' a xs := by
  rcases h with h | ⟨b, off, ha, hlt, hc⟩
  · exact .inl h
  · exact .inr ⟨b, off, ha, Nat.lt_of_lt_of_le hlt hk.size, fun i hi => hk.cell (hc i hi)⟩
theorem nats_len (l : List Nat) : (nats l).length = l.length := by simp [nats]
set_option maxHeartbeats 2000000 in
theorem cand_1 (s : ByteArray) (p e l most : Nat) (w : World) (h1 : s.size ≤ 1048576) (hpe : p ≤ e) (hes : e ≤ s.size) (hl1 : 10 ≤ l) (hl2 : l ≤ 27) (hm : most ≤ 64) (hc : wchk s.size p e l = 0) (L : List Nat) (HL : Hid (candAll s p e l = L)) :
    Calls Try.prog 53 #[.string s, .int .i64 (p : Int), .int .i64 (e : Int), .int .i64 (l : Int), .int .i64 (most : Int)] w fun e' w' => ∃ a cap, (L.take most).length ≤ cap ∧ e' = .returned (.tuple #[.slice a (L.take most).length cap, .int .i64 0]) ∧ Row .i64 w' a (nats (L.take most)) ∧ Below w.heap.size w w' := by
  have hl9 : s.size ≤ 9223372036854775807 := by omega
  have g1 : ¬ (most : Int) < 0 := by omega
  have g2 : ¬ (64 : Int) < (most : Int) := by omega
  refine calls_of_marks Try.func53 rfl ?_
  simp only [Try.ntmps53, List.size_toArray, List.length_cons, List.length_nil, Nat.reduceAdd, Nat.reduceSub, Array.replicate_succ, Array.replicate_zero, List.push_toArray, List.append_toArray, List.nil_append, List.cons_append]
  go_wp2_with (first | (go_at_call 51; refine (wcheck_p _ _ _ _ _ hl9).mono ?_; rintro e w1 ⟨rfl, hb⟩; have hsz := hb.size; (try simp at hsz); (first | (have hbl := blater2 HA (by first | exact Nat.le_refl _ | (simp; done) | (simp; omega)) hb; obtain ⟨hcc, hff, HA, hne, hne'⟩ := hbl) | (obtain ⟨hcc, hff, HA, hne, hne'⟩ := blater1 hb)); (try simp only [World.size_alloc, World.size_setCell] at HA)) | go_in)
  repeat' (first | (go_region <;> go_wp2_with (first | (go_at_call 51; refine (wcheck_p _ _ _ _ _ hl9).mono ?_; rintro e w1 ⟨rfl, hb⟩; have hsz := hb.size; (try simp at hsz); (first | (have hbl := blater2 HA (by first | exact Nat.le_refl _ | (simp; done) | (simp; omega)) hb; obtain ⟨hcc, hff, HA, hne, hne'⟩ := hbl) | (obtain ⟨hcc, hff, HA, hne, hne'⟩ := blater1 hb)); (try simp only [World.size_alloc, World.size_setCell] at HA)) | go_in)))
  obtain ⟨W0, hW0⟩ : ∃ W0, (((((w1.alloc (.cells #[.slice none 0 0] 37)).alloc (.cells #[.string s] 9)).alloc (.cells #[.int .i64 (p : Int)] 3)).alloc (.cells #[.int .i64 (e : Int)] 3)).alloc (.cells #[.int .i64 (l : Int)] 3)) = W0 := ⟨_, rfl⟩
  have B0 : Below w.heap.size w W0 := by
    rw [← hW0]
    repeat' (first | exact Below.refl _ _ | refine Below.drew ?_ | refine below_drewN ?_ _ | refine Below.alloc ?_ (by first | omega | (simp <;> omega)) _ | refine Below.setCell ?_ (by first | omega | (simp <;> omega)) _ | refine Below.trans ?_ (Below.mono (by assumption) (by first | omega | (simp <;> omega))))
  have B1 : Below (w.heap.size + 1) (w.alloc (.cells #[.int .i64 (most : Int)] 3)) W0 := by
    rw [← hW0]
    clear hW0
    rw [World.size_alloc] at hb
    refine ((((hb.alloc ?_ _).alloc ?_ _).alloc ?_ _).alloc ?_ _).alloc ?_ _ <;> (try simp) <;> omega
  have hw1 : w.heap.size + 1 ≤ w1.heap.size := by omega
  have xm : W0.cell? ⟨w.heap.size, 0, none⟩ = some (.int .i64 (most : Int)) := (B1.cell (p := ⟨w.heap.size, 0, none⟩) (by simp)).trans (by simp [go_sem])
  have xo : W0.cell? ⟨w1.heap.size, 0, none⟩ = some (.slice none 0 0) := by rw [← hW0]; simp [go_sem]
  have fo : W0.frozen? ⟨w1.heap.size, 0, none⟩ = false := by rw [← hW0]; simp [go_sem]
  have xs : W0.cell? ⟨w1.heap.size + 1, 0, none⟩ = some (.string s) := by rw [← hW0]; simp [go_sem]
  have xp : W0.cell? ⟨w1.heap.size + 2, 0, none⟩ = some (.int .i64 (p : Int)) := by rw [← hW0]; simp [go_sem]
  have xe : W0.cell? ⟨w1.heap.size + 3, 0, none⟩ = some (.int .i64 (e : Int)) := by rw [← hW0]; simp [go_sem]
  have xl : W0.cell? ⟨w1.heap.size + 4, 0, none⟩ = some (.int .i64 (l : Int)) := by rw [← hW0]; simp [go_sem]
  have S0 : w1.heap.size + 5 ≤ W0.heap.size := by rw [← hW0]; simp
  rw [hW0]
  clear hW0 hcc hff HA hne hne' hsz hb B1
  obtain ⟨i0, hinf, hz0, hz1, hz2⟩ := info_parts infoInt
  refine wp_rangeT_pure (gf := 103) (lb := #[.pointer (some ⟨w1.heap.size + 3, 0, none⟩), .pointer (some ⟨w1.heap.size + 2, 0, none⟩), .pointer (some ⟨w1.heap.size + 4, 0, none⟩), .pointer (some ⟨w1.heap.size + 1, 0, none⟩)]) rfl (enters_of Try.func103 (by kernel_rfl) rfl) L.length (fun i => #[.int .i64 (L.getD i 0 : Nat)]) (fun _ => rfl)
    (fun T i W => ∃ ad cap, i ≤ most ∧ W.cell? ⟨w1.heap.size, 0, none⟩ = some (.slice ad i cap) ∧ W.frozen? ⟨w1.heap.size, 0, none⟩ = false ∧ W.cell? ⟨w.heap.size, 0, none⟩ = some (.int .i64 (most : Int)) ∧ W.cell? ⟨w1.heap.size + 1, 0, none⟩ = some (.string s) ∧ W.cell? ⟨w1.heap.size + 2, 0, none⟩ = some (.int .i64 (p : Int)) ∧ W.cell? ⟨w1.heap.size + 3, 0, none⟩ = some (.int .i64 (e : Int)) ∧ W.cell? ⟨w1.heap.size + 4, 0, none⟩ = some (.int .i64 (l : Int)) ∧
      W.ownsRow W0.heap.size 3 1 (.slice ad i cap) i (pvals (L.take i)) ∧ (∀ g, (Value.slice ad i cap).ownBlock = some g → T ≤ g) ∧ Below w.heap.size w W ∧ W0.heap.size ≤ W.heap.size)
    (fun c W => c = .exit 0 ∧ ∃ ad cap, W.cell? ⟨w1.heap.size, 0, none⟩ = some (.slice ad most cap) ∧ W.ownsRow W0.heap.size 3 1 (.slice ad most cap) most (pvals (L.take most)) ∧ Below w.heap.size w W ∧ W0.heap.size ≤ W.heap.size)
    ?hI ?hIx ?h0 ?hround ?hiter ?hdone ?hstop
  case hI =>
    rintro T i X Y hk ⟨ad, cap, y1, y2, y3, y4, y5, y6, y7, y8, y9, y10, y11, y12⟩
    exact ⟨ad, cap, y1, hk.cell y2, (hk.frozen y2).trans y3, hk.cell y4, hk.cell y5, hk.cell y6, hk.cell y7, hk.cell y8, hk.ownsRow y9, y10, hk.below y11 (by omega) (by omega), Nat.le_trans y12 hk.size⟩
  case hIx =>
    rintro c X Y hk ⟨y1, ad, cap, y2, y9, y11, y12⟩
    exact ⟨y1, ad, cap, hk.cell y2, hk.ownsRow y9, hk.below y11 (by omega) (by omega), Nat.le_trans y12 hk.size⟩
  case h0 =>
    intro T
    exact ⟨none, 0, by omega, xo, fo, xm, xs, xp, xe, xl, World.ownsRow_nil _ _ _ _, by simp [Value.ownBlock], B0, Nat.le_refl _⟩
  case hround =>
    rintro l' T i W hi hT _ hl'
    obtain ⟨y, hy⟩ : ∃ y, L.getD i 0 = y := ⟨_, rfl⟩
    have htk : L.take (i + 1) = L.take i ++ [y] := by
      rw [List.take_succ_eq_append_getElem hi, ← hy]
      simp [hi]
    have HTK := Lib.hid htk
    simp only [hy]
    clear hy htk
    gi_wp2
    refine ⟨by first | rfl | trivial, ?_⟩
    rintro W2 hl2 hT2 ⟨ad, cap, y1, y2, y3, y4, y5, y6, y7, y8, y9, y10, y11, y12⟩
    have HY9 := Lib.hid y9
    have HY10 := Lib.hid y10
    clear y9 y10
    by_cases him : i = most
    · have e1 : ((i : Int) == (most : Int)) = true := by simp; omega
      have HIM := Lib.hid him
      clear him
      gi_wp2
      exact ⟨KeepsFrom.refl _ _, rfl, ad, cap, by rw [← HIM.out]; exact y2, by rw [← HIM.out]; exact HY9.out, y11, y12⟩
    · have e1 : ((i : Int) == (most : Int)) = false := by simp; omega
      gi_wp2_with (gi_at_builtin; refine wpListIn_append_own_at _ rfl _ _ 37 rfl W0.heap.size 3 i0 (.int .i64 0) 1 8 Try.underlying37 hinf hz0 hz1 hz2 rfl (by decide) _ _ _ rfl (HY9.out.alloc _) ⟨W2.heap.size, 0, none⟩ 1 1 [.int .i64 (y : Int)] rfl rfl (cell_one_new _ _ _) (one_int _ _) ?_ ?_ ?_ ?_; (unfold maxLen; omega); omega; (simp; omega); intro v' w4 ho' hg4 hnil hat; obtain ⟨ad', cap', rfl⟩ := own_slice ho'; have hb4 : Below W0.heap.size W2 w4 := ((Below.refl _ W2).alloc y12 _).grown hg4 (by simp; omega) (own_base HY9.out); have z2 := (hb4.cell (p := ⟨w1.heap.size, 0, none⟩) (by simp; omega)).trans y2; have z3 := (hb4.frozen (p := ⟨w1.heap.size, 0, none⟩) (by simp; omega)).trans y3)
      have hs4 := hg4.size
      simp at hs4
      refine ⟨((keepsFrom_of_below ((Below.refl _ W2).alloc (Nat.le_refl _) _)).trans (keepsFrom_grown hg4 (own_cells (HY9.out.alloc _)))).trans ((KeepsOthers.setCell _ _ _).from _), ⟨ad', cap', by omega, by simp [go_sem, z2], by simp [go_sem, z3], ?_, ?_, ?_, ?_, ?_, ?_, ?_, ?_, ?_⟩, ?_⟩
      · have := (hb4.cell (p := ⟨w.heap.size, 0, none⟩) (by simp; omega)).trans y4
        simp [go_sem, this, show w1.heap.size ≠ w.heap.size by omega]
      · have := (hb4.cell (p := ⟨w1.heap.size + 1, 0, none⟩) (by simp; omega)).trans y5
        simp [go_sem, this]
      · have := (hb4.cell (p := ⟨w1.heap.size + 2, 0, none⟩) (by simp; omega)).trans y6
        simp [go_sem, this]
      · have := (hb4.cell (p := ⟨w1.heap.size + 3, 0, none⟩) (by simp; omega)).trans y7
        simp [go_sem, this]
      · have := (hb4.cell (p := ⟨w1.heap.size + 4, 0, none⟩) (by simp; omega)).trans y8
        simp [go_sem, this]
      · refine World.ownsRow.kept ?_ (grown_setCell _ _ _) (.inr ?_)
        · rw [HTK.out]
          simpa [pvals, nats] using ho'
        · intro h
          have := own_base ho' _ h
          simp at this
          omega
      · intro g hg
        rcases hat with h | h
        · exact HY10.out g (h.symm.trans hg)
        · have h5 := h.symm.trans hg
          simp at h5
          omega
      · exact (y11.trans (hb4.mono (by have := y11.size; omega))).setCell (by simp; omega) _
      · simp; omega
      · exact ((KeptTo.of_below ((Below.refl _ W2).alloc (Nat.le_refl _) _)).trans (KeptTo.grown hg4 HY10.out)).trans (KeptTo.setCell _ _ (.inl (by simp; omega)))
  case hiter =>
    intro l' J Jx W hb hst hJI _ hr hj
    rw [← HL.out]
    have hbs := hb.size
    refine cand_iter s p e l (w1.heap.size + 3) (w1.heap.size + 2) (w1.heap.size + 4) (w1.heap.size + 1) l' W0.heap.size h1 hpe hes hl1 hl2 J Jx W (by omega) (by omega) (by omega) (by omega) (by omega) hst (fun T i X h => ?_) (fun T i X hi hT hX => ?_) hj
    · obtain ⟨ad, cap, y1, y2, y3, y4, y5, y6, y7, y8, _⟩ := hJI T i X h
      exact ⟨y7, y6, y8, y5⟩
    · rw [HL.out] at hi ⊢
      exact hr T i X hi hT hX
  case hdone =>
    rintro T D W hD ⟨ad, cap, y1, y2, y3, y4, y5, y6, y7, y8, y9, y10, y11, y12⟩ hdf
    have HY9 := Lib.hid y9
    clear y9 y10
    all_goals go_wp2
    all_goals refine ⟨by simp, .inl ⟨_, _, rfl, run_takeDeferred (by repeat' (first | exact hdf | apply setCell_deferred)), ?_⟩⟩
    all_goals go_light
    have e5 : L.take most = L.take L.length := by rw [List.take_of_length_le y1, List.take_of_length_le (Nat.le_refl _)]
    have e6 : (L.take most).length = L.length := by rw [e5]; simp
    refine ⟨_, results_tmp2 rfl _ _ _, ad, cap, by rw [e6]; exact own_cap HY9.out, by rw [e6]; rfl, ?_, below_putObj y11 (by omega) _⟩
    have hrow := (Row.of_own_slice (k := .i64) HY9.out).keep (Keep.putObj (B := 0) (.deferred none) (by omega) hdf rfl)
    rw [e5]
    exact hrow
  case hstop =>
    rintro D c W hD ⟨rfl, ad, cap, y2, y9, y11, y12⟩ hdf
    have HY9 := Lib.hid y9
    clear y9
    all_goals go_wp2
    all_goals refine ⟨by simp, .inl ⟨_, _, rfl, run_takeDeferred (by repeat' (first | exact hdf | apply setCell_deferred)), ?_⟩⟩
    all_goals go_light
    have e6 : (L.take most).length = most := by
      have := HY9.out.1
      simpa [pvals, nats] using this
    refine ⟨_, results_tmp2 rfl _ _ _, ad, cap, by rw [e6]; exact own_cap HY9.out, by rw [e6]; rfl, ?_, below_putObj y11 (by omega) _⟩
    exact (Row.of_own_slice (k := .i64) HY9.out).keep (Keep.putObj (B := 0) (.deferred none) (by omega) hdf rfl)
end Go.Proofs.Ytammacofhdbgcaa
