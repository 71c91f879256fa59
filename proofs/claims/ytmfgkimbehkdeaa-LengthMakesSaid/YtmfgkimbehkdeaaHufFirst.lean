/-
  The reference's first: the least node is taken away, walked.
-/
import Derived.Test.YtmfgkimbehkdeaaRows
import Derived.Test.YtmfgkimbehkdeaaHufNod
import Derived.Test.YtmfgkimbehkdeaaGBase
import Derived.Deep.Light
import Derived.Shelf.Abstract
import Derived.Shelf.RegionOpen
import Derived.OwnWalkIn
import Derived.TacticsInMore
import Derived.LoopNIn
import Derived.LoopIn
import Derived.IntWalk
import Derived.Outline
import Derived.Deep.CutRange
import Derived.Deep.RegionLaw
import Derived.Deep.RegionHeld3
namespace Go.Proofs.Ytmfgkimbehkdeaa
open Go.RowKit
set_option linter.unusedSimpArgs false
set_option linter.unusedVariables false
attribute [local go_sem] Oper.semAt_some

theorem own_cell4 {w : World} {base : Nat} {e : TypeId} {g n cap : Nat} {xs : List Value} (h : w.ownsRow base e 4 (.slice (some ⟨g, 0, none⟩) n cap) n xs) {i : Nat} {u : Value} (hi : xs[i]? = some u) : w.cell? ⟨g, i, none⟩ = some u := by
  rcases h.2 with ⟨h, _⟩ | ⟨g', cap', cur, hv, hb, hh, hc, hm, hs, ht⟩
  · cases h
  · cases hv
    have h2 : (cur.toList.take (n * 4))[i]? = some u := by rw [ht]; exact hi
    have h3 := (List.getElem?_eq_some_iff.1 h2).1
    rw [List.getElem?_take, if_pos (by simp at h3 ⊢; omega)] at h2
    simp [World.cell?, hh]
    simpa using h2
theorem own4_lt {w : World} {base : Nat} {e : TypeId} {g n cap : Nat} {xs : List Value} (h : w.ownsRow base e 4 (.slice (some ⟨g, 0, none⟩) n cap) n xs) : g < w.heap.size ∧ n ≤ cap := by
  rcases h.2 with ⟨h, _⟩ | ⟨g', cap', cur, hv, hb, hh, hc, hm, hs, ht⟩
  · cases h
  · cases hv
    exact ⟨(Array.getElem?_eq_some_iff.1 hh).1, hc⟩
theorem nodI : (Try.prog.info? 56).map (fun i => (i.zero, i.size, i.bytes)) = some (some (.agg #[.int .i64 0, .bool false, .int .i64 0, .slice none 0 0]), 4, 48) := by kernel_rfl
theorem nodInfo : ∃ i, Try.prog.info? 56 = some i ∧ i.zero = some (.agg #[.int .i64 0, .bool false, .int .i64 0, .slice none 0 0]) ∧ i.size = 4 ∧ i.bytes = 48 := by
  obtain ⟨i, h1, h2⟩ := Option.map_eq_some_iff.1 nodI
  simp only [Prod.mk.injEq] at h2
  exact ⟨i, h1, h2.1, h2.2.1, h2.2.2⟩
theorem sizeN4 (w : World) : (sizeOf 56).run Try.prog w = .ok 4 w := by kernel_rfl
def slf4 (a : Option Addr) (k c : Nat) : Option Addr := if c = k then a else a.map (·.add (k * 4))
theorem sl_to4 (w : World) (a : Option Addr) (n c m : Nat) (h : m ≤ c) : (Instr.slice 54 (.slice a n c) none (some (.int .i64 (m : Int))) none).run Try.prog w = .ok (.slice a m c) w :=
  run_slice_to w 54 56 Try.underlying54 4 (sizeN4 w) a n c m h
theorem sl_from4 (w : World) (a : Option Addr) (n c m : Nat) (h : m + 1 ≤ n) : (Instr.slice 54 (.slice a n c) (some (.int .i64 ((m : Int) + 1))) none none).run Try.prog w = .ok (.slice (slf4 a (m + 1) c) (n - (m + 1)) (c - (m + 1))) w := by
  have hu : Try.prog.underlying 54 = some (.slice (Try.prog.elem 54)) := by kernel_rfl
  have he : Try.prog.elem 54 = 56 := by kernel_rfl
  rw [run_slice_l w 54 a n c hu .i64 ((m : Int) + 1) (by omega) (by omega), he, sizeN4]
  have e : ((m : Int) + 1).toNat = m + 1 := by omega
  rw [e]
  rfl
/-- What lies at both parts of a row, from which one is left out. -/
def Parts (w : World) (g b c : Nat) (l : List RN) : Prop := RowV w (some ⟨g, 0, none⟩) (flatN (l.take b)) ∧ RowV w (slf4 (some ⟨g, 0, none⟩) (b + 1) c) (flatN (l.drop (b + 1)))
theorem add4 (g o j : Nat) : (⟨g, o, none⟩ : Addr).add j = ⟨g, o + j, none⟩ := by
  unfold Addr.add
  split <;> simp_all
theorem flatN_take (l : List RN) (b : Nat) : flatN (l.take b) = (flatN l).take (b * 4) := by
  induction l generalizing b with
  | nil => simp [flatN]
  | cons x l ih =>
    cases b with
    | zero => simp [flatN]
    | succ b =>
      have := ih b
      unfold flatN at this ⊢
      rw [List.take_succ_cons, List.flatMap_cons, List.flatMap_cons, this, List.take_append]
      have e : x.cells.length = 4 := rfl
      rw [e, List.take_of_length_le (l := x.cells) (by rw [e]; omega), show (b + 1) * 4 - 4 = b * 4 by omega]
theorem flatN_drop (l : List RN) (b : Nat) : flatN (l.drop b) = (flatN l).drop (b * 4) := by
  induction l generalizing b with
  | nil => simp [flatN]
  | cons x l ih =>
    cases b with
    | zero => simp [flatN]
    | succ b =>
      have := ih b
      unfold flatN at this ⊢
      rw [List.drop_succ_cons, List.flatMap_cons, this, List.drop_append]
      have e : x.cells.length = 4 := rfl
      rw [e, show List.drop ((b + 1) * 4) x.cells = [] from List.drop_eq_nil_of_le (by rw [e]; omega), show (b + 1) * 4 - 4 = b * 4 by omega, List.nil_append]
theorem parts_of {w X : World} {base g n cap b : Nat} {l : List RN} (h : w.ownsRow base 56 4 (.slice (some ⟨g, 0, none⟩) n cap) n (flatN l)) (hb : Below w.heap.size w X) (hn : n = l.length) (hbn : b < n) : Parts X g b cap l := by
  obtain ⟨hg, hc⟩ := own4_lt h
  refine ⟨.inr ⟨_, rfl, fun j u hj => ?_⟩, ?_⟩
  · rw [add4, Nat.zero_add]
    refine (hb.cell (p := ⟨g, j, none⟩) hg).trans (own_cell4 h ?_)
    rw [flatN_take, List.getElem?_take] at hj
    split at hj
    · exact hj
    · cases hj
  · unfold slf4
    split
    · rename_i e
      refine .inl ?_
      rw [List.drop_eq_nil_of_le (by omega)]
      rfl
    · refine .inr ⟨_, rfl, fun j u hj => ?_⟩
      show X.cell? (((⟨g, 0, none⟩ : Addr).add ((b + 1) * 4)).add j) = some u
      rw [add4, add4, Nat.zero_add]
      refine (hb.cell (p := ⟨g, _, none⟩) hg).trans (own_cell4 h ?_)
      rw [flatN_drop, List.getElem?_drop] at hj
      exact hj
theorem Parts.later {w X : World} {g b c : Nat} {l : List RN} (h : Parts w g b c l) (hg : g < w.heap.size) (hb : Below w.heap.size w X) : Parts X g b c l := by
  obtain ⟨h1, h2⟩ := h
  refine ⟨?_, ?_⟩
  · rcases h1 with h1 | ⟨ad, e, h1⟩
    · exact .inl h1
    · cases e
      refine .inr ⟨_, rfl, fun j u hj => ?_⟩
      have := h1 j u hj
      rw [add4] at this ⊢
      exact (hb.cell (p := ⟨g, _, none⟩) hg).trans this
  · unfold slf4 at h2 ⊢
    rcases h2 with h2 | ⟨ad, e, h2⟩
    · exact .inl h2
    · split at e
      · rename_i e2
        rw [if_pos e2]
        cases e
        refine .inr ⟨_, rfl, fun j u hj => ?_⟩
        have := h2 j u hj
        rw [add4] at this ⊢
        exact (hb.cell (p := ⟨g, _, none⟩) hg).trans this
      · rename_i e2
        rw [if_neg e2]
        cases e
        refine .inr ⟨_, rfl, fun j u hj => ?_⟩
        have := h2 j u hj
        change w.cell? (((⟨g, 0, none⟩ : Addr).add ((b + 1) * 4)).add j) = some u at this
        show X.cell? (((⟨g, 0, none⟩ : Addr).add ((b + 1) * 4)).add j) = some u
        rw [add4, add4] at this ⊢
        exact (hb.cell (p := ⟨g, _, none⟩) hg).trans this
theorem cells_one (l : List RN) : ∀ u ∈ flatN l, u.oneCell' = true := by
  intro u hu
  obtain ⟨x, _, hx⟩ := List.mem_flatMap.1 hu
  simp only [RN.cells, List.mem_cons, List.not_mem_nil, or_false] at hx
  rcases hx with rfl | rfl | rfl | rfl <;> rfl
theorem own_base4n {w : World} {base s : Nat} {e : TypeId} {v : Value} {n : Nat} {xs : List Value} (h : w.ownsRow base e s v n xs) : ∀ g, v.ownBlock = some g → base ≤ g := by
  intro g hg
  rcases h.2 with ⟨rfl, _⟩ | ⟨g', cap', cur, rfl, hb, _⟩
  · simp [Value.ownBlock] at hg
  · simp [Value.ownBlock] at hg
    omega
theorem own_other {w : World} {base s : Nat} {e : TypeId} {v : Value} {n : Nat} {xs : List Value} (h : w.ownsRow base e s v n xs) {p : Addr} (hp : p.block < base) (u : Value) : (w.setCell p u).ownsRow base e s v n xs := by
  obtain ⟨hl, h⟩ := h
  refine ⟨hl, ?_⟩
  rcases h with h | ⟨g', cap', cur, hv, hb, hh, r⟩
  · exact .inl h
  · refine .inr ⟨g', cap', cur, hv, hb, ?_, r⟩
    rw [Below.heap_setCell w p u g' (by omega)]
    exact hh
theorem own_rebase4 {w : World} {base b2 s : Nat} {e : TypeId} {v : Value} {n : Nat} {xs : List Value} (h : w.ownsRow base e s v n xs) (hb : b2 ≤ base) : w.ownsRow b2 e s v n xs := by
  obtain ⟨hl, h⟩ := h
  refine ⟨hl, ?_⟩
  rcases h with h | ⟨g', cap', cur, hv, hb2, r⟩
  · exact .inl h
  · exact .inr ⟨g', cap', cur, hv, by omega, r⟩
theorem own_made4 (w : World) (e : TypeId) (H : Nat) (h : w.heap.size = H) : (w.alloc (.cells #[] e)).ownsRow H e 4 (.slice (some ⟨H, 0, none⟩) 0 0) 0 [] := by
  subst h
  exact ownsRow_made2 w e 4
def FirstPost (l : List RN) (w : World) (e : Ending) (w' : World) : Prop :=
  ∃ (x : RN) (r : List RN) (pr : Value), e = .returned (.tuple #[.agg #[.int .i64 (x.t.cnt : Int), .bool x.t.isLeaf, .int .i64 (x.t.num : Int), .slice x.p x.t.syms.length x.c], pr]) ∧ w'.ownsRow w.heap.size 56 4 pr r.length (flatN r) ∧ (x :: r).Perm l ∧ (∀ z ∈ r, ¬ klt z.t x.t) ∧ pr ≠ .slice none 0 0 ∧ Below w.heap.size w w'
set_option maxRecDepth 100000 in
set_option maxHeartbeats 4000000 in
theorem first_p (g n cap base : Nat) (l : List RN) (w : World) (hn : n = l.length) (hown : w.ownsRow base 56 4 (.slice (some ⟨g, 0, none⟩) n cap) n (flatN l)) (hA : AgedL l) (h1 : 1 ≤ n) (h2 : n ≤ 256) :
    Calls Try.prog 43 #[.slice (some ⟨g, 0, none⟩) n cap] w (FirstPost l w) := by
  obtain ⟨hg, hcap⟩ := own4_lt hown
  have HO := Lib.hid hown
  have HN := Lib.hid hn
  have HA := Lib.hid hA
  obtain ⟨y0, hy0⟩ : ∃ y, l[0]? = some y := ⟨_, List.getElem?_eq_getElem (by omega)⟩
  have HY0 := Lib.hid hy0
  clear hown hn hA hy0
  go_enter Try.func43, Try.ntmps43
  go_wp2
  obtain ⟨W0, hW0⟩ : ∃ W0, w.alloc (.cells #[.int .i64 0, .bool false, .int .i64 0, .slice none 0 0] 56) = W0 := ⟨_, rfl⟩
  have B0 : Below w.heap.size w W0 := by
    rw [← hW0]
    exact (Below.refl _ _).alloc (Nat.le_refl _) _
  have S0 : W0.heap.size = w.heap.size + 1 := by
    rw [← hW0]
    simp
  have o0 : W0.cell? ⟨w.heap.size, 0, none⟩ = some (.int .i64 0) := by
    rw [← hW0]
    simp [go_sem]
  have o1 : W0.cell? ⟨w.heap.size, 1, none⟩ = some (.bool false) := by
    rw [← hW0]
    simp [go_sem]
  have o2 : W0.cell? ⟨w.heap.size, 2, none⟩ = some (.int .i64 0) := by
    rw [← hW0]
    simp [go_sem]
  have o3 : W0.cell? ⟨w.heap.size, 3, none⟩ = some (.slice none 0 0) := by
    rw [← hW0]
    simp [go_sem]
  have e0 : W0.frozen? ⟨w.heap.size, 0, none⟩ = false := by
    rw [← hW0]
    simp [go_sem]
  have e1 : W0.frozen? ⟨w.heap.size, 1, none⟩ = false := by
    rw [← hW0]
    simp [go_sem]
  have e2 : W0.frozen? ⟨w.heap.size, 2, none⟩ = false := by
    rw [← hW0]
    simp [go_sem]
  have e3 : W0.frozen? ⟨w.heap.size, 3, none⟩ = false := by
    rw [← hW0]
    simp [go_sem]
  rw [hW0]
  clear hW0
  go_loopw [4, 5] (fun vb vi wr => ∃ (b i : Nat) (y : RN), vb = .int .i64 (b : Int) ∧ vi = .int .i64 (i : Int) ∧ b < i ∧ i ≤ n ∧ Hid (l[b]? = some y) ∧ Hid (∀ k z, k < i → l[k]? = some z → ¬ klt z.t y.t) ∧ Below (w.heap.size + 1) W0 wr) (fun _ vi _ => n - (intOf vi).toNat)
  case atStart =>
    refine ⟨0, 1, y0, rfl, rfl, by omega, by omega, HY0, Lib.hid (fun k z hk hz => ?_), Below.refl _ _⟩
    obtain rfl : k = 0 := by omega
    rw [HY0.out] at hz
    cases hz
    exact fun h => klt_ord.asym _ _ h h
  case round =>
    obtain ⟨b, i, y, rfl, rfl, hbi, hi, HB, HM, hB0⟩ := hrel
    have hB : Below w.heap.size w wr := B0.trans (hB0.mono (Nat.le_succ _))
    have hsw : w.heap.size < wr.heap.size := by have := hB0.size; omega
    have hsw2 : ¬ w.heap.size = wr.heap.size := by omega
    have hgr : g < wr.heap.size := by omega
    by_cases hlt : i < n
    · obtain ⟨x, hx⟩ : ∃ x, l[i]? = some x := ⟨_, List.getElem?_eq_getElem (by have := HN.out; omega)⟩
      have i0 : (0 : Int) ≤ (i : Int) := by omega
      have i1 : (i : Int) < (n : Int) := by omega
      have b0 : (0 : Int) ≤ (b : Int) := by omega
      have b1 : (b : Int) < (n : Int) := by omega
      have x0 : wr.cell? ⟨g, i * 4, none⟩ = some (.int .i64 (x.t.cnt : Int)) := (hB.cell (p := ⟨g, i * 4, none⟩) hg).trans (own_cell4 HO.out ((flatN_at hx 0 (by omega)).trans rfl))
      have x1 : wr.cell? ⟨g, i * 4 + 1, none⟩ = some (.bool x.t.isLeaf) := (hB.cell (p := ⟨g, i * 4 + 1, none⟩) hg).trans (own_cell4 HO.out ((flatN_at hx 1 (by omega)).trans rfl))
      have x2 : wr.cell? ⟨g, i * 4 + 2, none⟩ = some (.int .i64 (x.t.num : Int)) := (hB.cell (p := ⟨g, i * 4 + 2, none⟩) hg).trans (own_cell4 HO.out ((flatN_at hx 2 (by omega)).trans rfl))
      have x3 : wr.cell? ⟨g, i * 4 + 3, none⟩ = some (.slice x.p x.t.syms.length x.c) := (hB.cell (p := ⟨g, i * 4 + 3, none⟩) hg).trans (own_cell4 HO.out ((flatN_at hx 3 (by omega)).trans rfl))
      have y0 : wr.cell? ⟨g, b * 4, none⟩ = some (.int .i64 (y.t.cnt : Int)) := (hB.cell (p := ⟨g, b * 4, none⟩) hg).trans (own_cell4 HO.out ((flatN_at HB.out 0 (by omega)).trans rfl))
      have y1 : wr.cell? ⟨g, b * 4 + 1, none⟩ = some (.bool y.t.isLeaf) := (hB.cell (p := ⟨g, b * 4 + 1, none⟩) hg).trans (own_cell4 HO.out ((flatN_at HB.out 1 (by omega)).trans rfl))
      have y2 : wr.cell? ⟨g, b * 4 + 2, none⟩ = some (.int .i64 (y.t.num : Int)) := (hB.cell (p := ⟨g, b * 4 + 2, none⟩) hg).trans (own_cell4 HO.out ((flatN_at HB.out 2 (by omega)).trans rfl))
      have y3 : wr.cell? ⟨g, b * 4 + 3, none⟩ = some (.slice y.p y.t.syms.length y.c) := (hB.cell (p := ⟨g, b * 4 + 3, none⟩) hg).trans (own_cell4 HO.out ((flatN_at HB.out 3 (by omega)).trans rfl))
      have q := fun W => rbefore_p (x.t.cnt : Int) (x.t.num : Int) (y.t.cnt : Int) (y.t.num : Int) x.t.isLeaf y.t.isLeaf (.slice x.p x.t.syms.length x.c) (.slice y.p y.t.syms.length y.c) W
      rw [rbI_rbef] at q
      have HK := Lib.hid (rbef_klt (HA.out x (List.mem_of_getElem? hx)) (HA.out y (List.mem_of_getElem? HB.out)))
      have HX := Lib.hid hx
      clear hx
      by_cases hk : rbef x.t y.t = true
      · rw [hk] at q
        have HM2 : Hid (∀ k z, k < i + 1 → l[k]? = some z → ¬ klt z.t x.t) := Lib.hid (fun k z h1 h2 => by
          by_cases e : k < i
          · exact klt_ord.trans _ _ _ (klt_ord.asym _ _ (HK.out.1 hk)) (HM.out k z e h2)
          · obtain rfl : k = i := by omega
            rw [HX.out] at h2
            cases h2
            exact fun h => klt_ord.asym _ _ h h)
        clear hk
        go_wp2
        refine wp_region_later1 (by kernel_rfl) (by kernel_rfl) ?_
        intro hLC
        repeat (go_big_quiet_step ((go_at_call 50; exact Calls.later_of (q _))))
        refine wpQuiet_nil ?_
        intro w2 hb2
        clear hLC
        go_wp2
        go_roundw
        case rel => exact ⟨i, i + 1, x, rfl, by go_num, by omega, by omega, HX, HM2, hB0.trans (hb2.mono (by omega))⟩
        case measure => go_light; simp [intOf] <;> omega
      · have hk2 : rbef x.t y.t = false := by simpa using hk
        rw [hk2] at q
        have HM2 : Hid (∀ k z, k < i + 1 → l[k]? = some z → ¬ klt z.t y.t) := Lib.hid (fun k z h1 h2 => by
          by_cases e : k < i
          · exact HM.out k z e h2
          · obtain rfl : k = i := by omega
            rw [HX.out] at h2
            cases h2
            exact fun h => hk (HK.out.2 h))
        clear hk hk2
        go_wp2
        refine wp_region_later1 (by kernel_rfl) (by kernel_rfl) ?_
        intro hLC
        repeat (go_big_quiet_step ((go_at_call 50; exact Calls.later_of (q _))))
        refine wpQuiet_nil ?_
        intro w2 hb2
        clear hLC
        go_wp2
        go_roundw
        case rel => exact ⟨b, i + 1, y, rfl, by go_num, by omega, by omega, HB, HM2, hB0.trans (hb2.mono (by omega))⟩
        case measure => go_light; simp [intOf] <;> omega
    · obtain rfl : i = n := by omega
      have b0 : (0 : Int) ≤ (b : Int) := by omega
      have b1 : (b : Int) < (i : Int) := by omega
      have HL4 := Lib.hid (parts_of HO.out hB HN.out hbi)
      have y0 : wr.cell? ⟨g, b * 4, none⟩ = some (.int .i64 (y.t.cnt : Int)) := (hB.cell (p := ⟨g, b * 4, none⟩) hg).trans (own_cell4 HO.out ((flatN_at HB.out 0 (by omega)).trans rfl))
      have y1 : wr.cell? ⟨g, b * 4 + 1, none⟩ = some (.bool y.t.isLeaf) := (hB.cell (p := ⟨g, b * 4 + 1, none⟩) hg).trans (own_cell4 HO.out ((flatN_at HB.out 1 (by omega)).trans rfl))
      have y2 : wr.cell? ⟨g, b * 4 + 2, none⟩ = some (.int .i64 (y.t.num : Int)) := (hB.cell (p := ⟨g, b * 4 + 2, none⟩) hg).trans (own_cell4 HO.out ((flatN_at HB.out 2 (by omega)).trans rfl))
      have y3 : wr.cell? ⟨g, b * 4 + 3, none⟩ = some (.slice y.p y.t.syms.length y.c) := (hB.cell (p := ⟨g, b * 4 + 3, none⟩) hg).trans (own_cell4 HO.out ((flatN_at HB.out 3 (by omega)).trans rfl))
      have hto := fun W => sl_to4 W (some ⟨g, 0, none⟩) i cap b (by omega)
      have haw : IntKind.i64.wrap ((b : Int) + 1) = (b : Int) + 1 := IntWalk.i64_in _ (by omega)
      have hfr := fun W => sl_from4 W (some ⟨g, 0, none⟩) i cap b (by omega)
      have d0 : wr.frozen? ⟨w.heap.size, 0, none⟩ = false := (hB0.frozen (p := ⟨w.heap.size, 0, none⟩) (Nat.lt_succ_self _)).trans e0
      have d1 : wr.frozen? ⟨w.heap.size, 1, none⟩ = false := (hB0.frozen (p := ⟨w.heap.size, 1, none⟩) (Nat.lt_succ_self _)).trans e1
      have d2 : wr.frozen? ⟨w.heap.size, 2, none⟩ = false := (hB0.frozen (p := ⟨w.heap.size, 2, none⟩) (Nat.lt_succ_self _)).trans e2
      have d3 : wr.frozen? ⟨w.heap.size, 3, none⟩ = false := (hB0.frozen (p := ⟨w.heap.size, 3, none⟩) (Nat.lt_succ_self _)).trans e3
      have c0 : wr.cell? ⟨w.heap.size, 0, none⟩ = some (.int .i64 0) := (hB0.cell (p := ⟨w.heap.size, 0, none⟩) (Nat.lt_succ_self _)).trans o0
      have c1 : wr.cell? ⟨w.heap.size, 1, none⟩ = some (.bool false) := (hB0.cell (p := ⟨w.heap.size, 1, none⟩) (Nat.lt_succ_self _)).trans o1
      have c2 : wr.cell? ⟨w.heap.size, 2, none⟩ = some (.int .i64 0) := (hB0.cell (p := ⟨w.heap.size, 2, none⟩) (Nat.lt_succ_self _)).trans o2
      have c3 : wr.cell? ⟨w.heap.size, 3, none⟩ = some (.slice none 0 0) := (hB0.cell (p := ⟨w.heap.size, 3, none⟩) (Nat.lt_succ_self _)).trans o3
      obtain ⟨i3, hi3, hz0, hz1, hz2⟩ := nodInfo
      go_wp2
      go_region_held3 (fun w' => w'.cell? ⟨wr.heap.size, 0, none⟩ = some (.int .i64 (y.t.cnt : Int)) ∧ w'.cell? ⟨wr.heap.size, 1, none⟩ = some (.bool y.t.isLeaf) ∧ w'.cell? ⟨wr.heap.size, 2, none⟩ = some (.int .i64 (y.t.num : Int)) ∧ w'.cell? ⟨wr.heap.size, 3, none⟩ = some (.slice y.p y.t.syms.length y.c)) (first | (simp [go_sem, *]; done) | go_keep) ((first | (refine step_append_any (by rfl) _ _ _ (by rfl) (wr.heap.size + 1) 56 i3 _ 4 48 Try.underlying54 hi3 hz0 hz1 hz2 rfl (by omega) (.slice (some ⟨wr.heap.size + 1, 0, none⟩) 0 0) 0 [] (by rfl) ((own_made4 _ 56 (wr.heap.size + 1) (by simp)).drew) (some ⟨g, 0, none⟩) b cap (flatN (l.take b)) (by rfl) (by rw [flatN_length, List.length_take]; have := HN.out; omega) (HL4.out.later hgr (by repeat' (first | with_reducible exact Below.refl _ _ | with_reducible refine Below.drew ?_ | with_reducible refine Below.alloc ?_ (by first | omega | (simp <;> omega)) _))).1 (cells_one _) (by unfold maxLen; omega) (by omega) (by simp) (by simp) ?_; intro v1 w6 hown6 hgrow6 hne6; (have Bw6 : Below (wr.heap.size + 1) (wr.alloc (.cells #[.int .i64 (y.t.cnt : Int), .bool y.t.isLeaf, .int .i64 (y.t.num : Int), .slice y.p y.t.syms.length y.c] 56)) w6 := (((Below.refl _ _).alloc (by simp) _).drew).grown hgrow6 (by simp) (fun k hk => by simp [Value.ownBlock] at hk; omega)); (have bw60 : w6.cell? ⟨wr.heap.size, 0, none⟩ = some (.int .i64 (y.t.cnt : Int)) := (Bw6.cell (p := ⟨wr.heap.size, 0, none⟩) (Nat.lt_succ_self _)).trans (by simp [go_sem])); (have bw61 : w6.cell? ⟨wr.heap.size, 1, none⟩ = some (.bool y.t.isLeaf) := (Bw6.cell (p := ⟨wr.heap.size, 1, none⟩) (Nat.lt_succ_self _)).trans (by simp [go_sem])); (have bw62 : w6.cell? ⟨wr.heap.size, 2, none⟩ = some (.int .i64 (y.t.num : Int)) := (Bw6.cell (p := ⟨wr.heap.size, 2, none⟩) (Nat.lt_succ_self _)).trans (by simp [go_sem])); (have bw63 : w6.cell? ⟨wr.heap.size, 3, none⟩ = some (.slice y.p y.t.syms.length y.c) := (Bw6.cell (p := ⟨wr.heap.size, 3, none⟩) (Nat.lt_succ_self _)).trans (by simp [go_sem])); (have hs6 : wr.heap.size + 1 ≤ w6.heap.size := by (have := Bw6.size; simpa using this)); (have HP6 := HL4.out.later hgr (((Below.refl _ _).alloc (Nat.le_refl _) _).trans (Bw6.mono (Nat.le_succ _))))) | (refine step_append_any (by rfl) _ _ _ (by rfl) (wr.heap.size + 1) 56 i3 _ 4 48 Try.underlying54 hi3 hz0 hz1 hz2 rfl (by omega) v1 (0 + b) _ (by rfl) hown6 (slf4 (some ⟨g, 0, none⟩) (b + 1) cap) (i - (b + 1)) (cap - (b + 1)) (flatN (l.drop (b + 1))) (by rfl) (by rw [flatN_length, List.length_drop]; have := HN.out; omega) HP6.2 (cells_one _) (by unfold maxLen; omega) (by omega) hs6 hne6 ?_; intro v2 w7 hown7 hgrow7 hne7; (have Bw7 : Below (wr.heap.size + 1) (wr.alloc (.cells #[.int .i64 (y.t.cnt : Int), .bool y.t.isLeaf, .int .i64 (y.t.num : Int), .slice y.p y.t.syms.length y.c] 56)) w7 := Bw6.grown hgrow7 hs6 (own_base4n hown6)); (have bw70 : w7.cell? ⟨wr.heap.size, 0, none⟩ = some (.int .i64 (y.t.cnt : Int)) := (Bw7.cell (p := ⟨wr.heap.size, 0, none⟩) (Nat.lt_succ_self _)).trans (by simp [go_sem])); (have bw71 : w7.cell? ⟨wr.heap.size, 1, none⟩ = some (.bool y.t.isLeaf) := (Bw7.cell (p := ⟨wr.heap.size, 1, none⟩) (Nat.lt_succ_self _)).trans (by simp [go_sem])); (have bw72 : w7.cell? ⟨wr.heap.size, 2, none⟩ = some (.int .i64 (y.t.num : Int)) := (Bw7.cell (p := ⟨wr.heap.size, 2, none⟩) (Nat.lt_succ_self _)).trans (by simp [go_sem])); (have bw73 : w7.cell? ⟨wr.heap.size, 3, none⟩ = some (.slice y.p y.t.syms.length y.c) := (Bw7.cell (p := ⟨wr.heap.size, 3, none⟩) (Nat.lt_succ_self _)).trans (by simp [go_sem])); (have q0 : w7.cell? ⟨w.heap.size, 0, none⟩ = some (.int .i64 0) := (Bw7.cell (p := ⟨w.heap.size, 0, none⟩) (Nat.lt_succ_of_lt hsw)).trans (by simp [go_sem, c0, hsw, hsw2])); (have q1 : w7.cell? ⟨w.heap.size, 1, none⟩ = some (.bool false) := (Bw7.cell (p := ⟨w.heap.size, 1, none⟩) (Nat.lt_succ_of_lt hsw)).trans (by simp [go_sem, c1, hsw, hsw2])); (have q2 : w7.cell? ⟨w.heap.size, 2, none⟩ = some (.int .i64 0) := (Bw7.cell (p := ⟨w.heap.size, 2, none⟩) (Nat.lt_succ_of_lt hsw)).trans (by simp [go_sem, c2, hsw, hsw2])); (have q3 : w7.cell? ⟨w.heap.size, 3, none⟩ = some (.slice none 0 0) := (Bw7.cell (p := ⟨w.heap.size, 3, none⟩) (Nat.lt_succ_of_lt hsw)).trans (by simp [go_sem, c3, hsw, hsw2])); (have f0 : w7.frozen? ⟨w.heap.size, 0, none⟩ = false := (Bw7.frozen (p := ⟨w.heap.size, 0, none⟩) (Nat.lt_succ_of_lt hsw)).trans (by simp [go_sem, d0, hsw, hsw2])); (have f1 : w7.frozen? ⟨w.heap.size, 1, none⟩ = false := (Bw7.frozen (p := ⟨w.heap.size, 1, none⟩) (Nat.lt_succ_of_lt hsw)).trans (by simp [go_sem, d1, hsw, hsw2])); (have f2 : w7.frozen? ⟨w.heap.size, 2, none⟩ = false := (Bw7.frozen (p := ⟨w.heap.size, 2, none⟩) (Nat.lt_succ_of_lt hsw)).trans (by simp [go_sem, d2, hsw, hsw2])); (have f3 : w7.frozen? ⟨w.heap.size, 3, none⟩ = false := (Bw7.frozen (p := ⟨w.heap.size, 3, none⟩) (Nat.lt_succ_of_lt hsw)).trans (by simp [go_sem, d3, hsw, hsw2])))))
      go_wp2
      go_light
      refine bodyPost_ret (v := .tuple #[.agg #[.int .i64 (y.t.cnt : Int), .bool y.t.isLeaf, .int .i64 (y.t.num : Int), .slice y.p y.t.syms.length y.c], v2]) (by simp [results, Try.results43, go_sem, *]) rfl ?_
      refine ⟨y, l.take b ++ l.drop (b + 1), v2, rfl, ?_, erase_perm HB.out, ?_, hne7, ?_⟩
      · have h1 := fun u0 u1 u2 u3 => own_rebase4 (b2 := w.heap.size) (own_other (own_other (own_other (own_other hown7 (p := ⟨w.heap.size, 0, none⟩) (Nat.lt_succ_of_lt hsw) u0) (p := ⟨w.heap.size, 1, none⟩) (Nat.lt_succ_of_lt hsw) u1) (p := ⟨w.heap.size, 2, none⟩) (Nat.lt_succ_of_lt hsw) u2) (p := ⟨w.heap.size, 3, none⟩) (Nat.lt_succ_of_lt hsw) u3) (by omega)
        have e1 : (l.take b ++ l.drop (b + 1)).length = 0 + b + (i - (b + 1)) := by
          rw [List.length_append, List.length_take, List.length_drop]
          have := HN.out
          omega
        rw [e1, flatN_append]
        exact h1 _ _ _ _
      · intro z hz
        obtain ⟨k, hk⟩ := List.mem_iff_getElem?.1 ((erase_perm HB.out).mem_iff.1 (List.mem_cons_of_mem _ hz))
        have := (List.getElem?_eq_some_iff.1 hk).1
        exact HM.out k z (by have := HN.out; omega) hk
      · have B7 : Below w.heap.size w w7 := (hB.alloc (Nat.le_of_lt hsw) _).trans (Bw7.mono (by omega))
        exact (((B7.setCell (Nat.le_refl _) _).setCell (Nat.le_refl _) _).setCell (Nat.le_refl _) _).setCell (Nat.le_refl _) _
end Go.Proofs.Ytmfgkimbehkdeaa
