/-
  The reference's depths, walked.
-/
import Derived.Test.YtmfgkimbehkdeaaRows
import Derived.Test.YtmfgkimbehkdeaaHufDepR
import Derived.Test.YtmfgkimbehkdeaaGBase
import Derived.Deep.Light
import Derived.Shelf.Abstract
import Derived.Shelf.RegionOpen
import Derived.OwnWalkIn
import Derived.TacticsInMore
import Derived.LoopNIn
import Derived.LoopIn
import Derived.IntWalk
import Derived.Outline
import Derived.Deep.CutRange
import Derived.Deep.RegionLaw
import Derived.Deep.RegionHeld3
namespace Go.Proofs.Ytmfgkimbehkdeaa
open Go.RowKit
set_option linter.unusedSimpArgs false
set_option linter.unusedVariables false
attribute [local go_sem] Oper.semAt_some

/-- What lies in memory between two rounds: the row of nodes, their symbols, the depths so far. -/
structure Lay (O : Nat) (v : Value) (rl : List RN) (out : List Nat) (w : World) : Prop where
  own : w.ownsRow (O + 1) 56 4 v rl.length (flatN rl)
  sym : ∀ x ∈ rl, SymAt (O + 1) w x
  arr : Arr w O 3 (ints out)
theorem Lay.later {O : Nat} {v : Value} {rl : List RN} {out : List Nat} {w w' : World} (h : Lay O v rl out w) (hb : Below w.heap.size w w') : Lay O v rl out w' :=
  ⟨ownsRow_later h.own hb, fun x hx => (h.sym x hx).keep (KeepI.below hb), Blk.later h.arr hb⟩
/-- A node goes behind the others. -/
theorem Lay.push {O n : Nat} {v v1 : Value} {rl : List RN} {out : List Nat} {w w1 : World} {x : RN} (h : Lay O v rl out w) (hx : SymAt (O + 1) w x) (h1 : w1.ownsRow (O + 1) 56 4 v1 n (flatN rl ++ x.cells)) (hn : n = rl.length + 1) (hg : w.grownBy w1 v.ownBlock) : Lay O v1 (rl ++ [x]) out w1 := by
  subst hn
  have hk : KeepI (O + 1) w w1 := KeepI.grown h.own hg
  refine ⟨?_, fun y hy => ?_, ?_⟩
  · rw [List.length_append, flatN_append]
    have e : flatN [x] = x.cells := by simp [flatN]
    rw [e]
    exact h1
  · rcases List.mem_append.1 hy with hy | hy
    · exact (h.sym y hy).keep hk
    · simp at hy
      subst hy
      exact hx.keep hk
  · have h2 := h.arr
    unfold Arr Blk at h2 ⊢
    rw [hg.block O (Array.getElem?_eq_some_iff.1 h2).1 ?_]
    · exact h2
    · intro e
      have := own_base4n h.own O e.symm
      omega
theorem own_made1n (w : World) (e : TypeId) (H : Nat) (h : w.heap.size = H) : (w.alloc (.cells #[] e)).ownsRow H e 1 (.slice (some ⟨H, 0, none⟩) 0 0) 0 [] := by
  subst h
  exact ownsRow_made w e
theorem grow_box {w w' : World} {base n B : Nat} {v : Value} {xs vs : List Value} (h : w.ownsRow base 3 1 v n xs) (hg : w.grownBy w' v.ownBlock) (hb : Blk w B 56 vs) : Blk w' B 56 vs := by
  unfold Blk at hb ⊢
  rw [hg.block B (Array.getElem?_eq_some_iff.1 hb).1 ?_]
  · exact hb
  · intro e
    rcases h.2 with ⟨rfl, _⟩ | ⟨g', cap', cur', rfl, hb2, hh', _⟩
    · simp [Value.ownBlock] at e
    · simp [Value.ownBlock] at e
      subst e
      rw [hb] at hh'
      simp at hh'
theorem own_set_n {w : World} {base n B : Nat} {v : Value} {xs vs : List Value} (h : w.ownsRow base 3 1 v n xs) (hb : Blk w B 56 vs) (j : Nat) (u : Value) : (w.setCell ⟨B, j, none⟩ u).ownsRow base 3 1 v n xs := by
  obtain ⟨hl, h⟩ := h
  refine ⟨hl, ?_⟩
  rcases h with h | ⟨g', cap', cur', hv, hb2, hh', r⟩
  · exact .inl h
  · refine .inr ⟨g', cap', cur', hv, hb2, ?_, r⟩
    rw [Below.heap_setCell w _ u g' ?_]
    · exact hh'
    · intro e
      unfold Blk at hb
      dsimp only at e
      rw [e, hb] at hh'
      simp at hh'
theorem set_box {w : World} {base n B : Nat} {v z0 z1 z2 z3 : Value} {xs : List Value} (h : w.ownsRow base 3 1 v n xs) (hb : Blk w B 56 [z0, z1, z2, z3]) (a b c d : Value) :
    Blk ((((w.setCell ⟨B, 0, none⟩ a).setCell ⟨B, 1, none⟩ b).setCell ⟨B, 2, none⟩ c).setCell ⟨B, 3, none⟩ d) B 56 [a, b, c, d] ∧ ((((w.setCell ⟨B, 0, none⟩ a).setCell ⟨B, 1, none⟩ b).setCell ⟨B, 2, none⟩ c).setCell ⟨B, 3, none⟩ d).ownsRow base 3 1 v n xs :=
  ⟨(((hb.set 0 a).set 1 b).set 2 c).set 3 d, own_set_n (own_set_n (own_set_n (own_set_n h hb 0 a) (hb.set 0 a) 1 b) ((hb.set 0 a).set 1 b) 2 c) (((hb.set 0 a).set 1 b).set 2 c) 3 d⟩
theorem keepI_but {O : Nat} {w w' : World} (h : But (fun k => k = O) w w') : KeepI (O + 1) w w' := fun g cur hg hh => h.block g _ (fun e => by omega) hh
theorem own_made1 (w : World) (e : TypeId) : (w.alloc (.cells #[] e)).ownsRow w.heap.size e 1 (.slice (some ⟨w.heap.size, 0, none⟩) 0 0) 0 [] := ownsRow_made w e
theorem own_slice4n {w : World} {base z : Nat} {e : TypeId} {v : Value} {n : Nat} {xs : List Value} (h : w.ownsRow base e z v n xs) : ∃ a cap, v = .slice a n cap := by
  rcases h.2 with ⟨rfl, rfl⟩ | ⟨g', cap', cur, rfl, hb, _⟩
  · exact ⟨_, _, rfl⟩
  · exact ⟨_, _, rfl⟩
theorem own_some4 {w : World} {base z : Nat} {e : TypeId} {v : Value} {n : Nat} {xs : List Value} (h : w.ownsRow base e z v n xs) (hne : v ≠ .slice none 0 0) : ∃ g cap, v = .slice (some ⟨g, 0, none⟩) n cap ∧ base ≤ g := by
  rcases h.2 with ⟨h, _⟩ | ⟨g', cap', cur, rfl, hb, _⟩
  · exact absurd h hne
  · exact ⟨g', cap', rfl, hb⟩
theorem own_pos4 {w : World} {base z : Nat} {e : TypeId} {v : Value} {n : Nat} {xs : List Value} (h : w.ownsRow base e z v n xs) (hn : 0 < n) : ∃ g cap, v = .slice (some ⟨g, 0, none⟩) n cap ∧ base ≤ g := by
  rcases h.2 with ⟨_, h⟩ | ⟨g', cap', cur, rfl, hb, _⟩
  · omega
  · exact ⟨g', cap', rfl, hb⟩
set_option maxRecDepth 100000 in
set_option maxHeartbeats 8000000 in
theorem rdepths_p (a : Option Addr) (ns : List Nat) (cap : Nat) (w : World) (ha : Row .i64 w a (ints ns)) (hl : ns.length ≤ 256) (hsum : ns.sum ≤ 1099511627776) (h1 : 1 ≤ (leaves 0 ns).length) :
    Calls Try.prog 31 #[.slice a ns.length cap] w (DepthsPost (depthsL ns) w) := by
  have hn1 : 1 ≤ ns.length := by have := leaves_le ns 0; omega
  obtain ⟨ab, ao, rfl, hab, hac⟩ := ha.at (i := 0) (by rw [ints_length]; omega)
  have HAC := Lib.hid hac
  have hmk : ∀ W, (Instr.makeSlice 22 (.int .i64 (ns.length : Int)) (.int .i64 (ns.length : Int))).run Try.prog W = _ := fun W => mk_ints ns.length (by omega) W
  have H1 := Lib.hid h1
  have HS := Lib.hid hsum
  obtain ⟨i3, hi3, hz0, hz1, hz2⟩ := nodInfo
  obtain ⟨inf, hinf, hy0, hy1, hy2⟩ := info_parts infoInt
  obtain ⟨W0, hW0⟩ : ∃ W0, w.alloc (.cells (madeCells #[.int .i64 0] ns.length) 3) = W0 := ⟨_, rfl⟩
  have L0 : Hid (Lay w.heap.size (.slice none 0 0) [] (List.replicate ns.length 0) W0) := Lib.hid (by
    rw [← hW0]
    refine ⟨World.ownsRow_nil _ _ _ _, fun x hx => (by cases hx), ?_⟩
    have := Arr.made w ns.length
    have e : ints (List.replicate ns.length 0) = List.replicate ns.length 0 := by simp [ints]
    rw [e]
    exact this)
  have B0 : Below w.heap.size w W0 := by
    rw [← hW0]
    exact (Below.refl _ _).alloc (Nat.le_refl _) _
  have S0 : w.heap.size < W0.heap.size := by rw [← hW0]; simp
  clear h1 hsum hac ha
  go_enter Try.func31, Try.ntmps31
  go_wp2
  clear hmk hW0
  go_loopw [4, 5] (fun vl vi wr => ∃ (k : Nat) (rl : List RN), vi = .int .i64 (k : Int) ∧ k ≤ ns.length ∧ rl.length ≤ k ∧ Hid (rl.map RN.t = leaves 0 (ns.take k)) ∧ Hid (Lay w.heap.size vl rl (List.replicate ns.length 0) wr) ∧ Below w.heap.size w wr ∧ w.heap.size < wr.heap.size) (fun _ vi _ => ns.length - (intOf vi).toNat)
  case atStart => exact ⟨0, [], rfl, Nat.zero_le _, Nat.le_refl _, Lib.hid rfl, L0, B0, S0⟩
  case round =>
    clear L0 B0 S0 W0
    obtain ⟨k, rl, rfl, hk, hrk, HF, HL, hB, hS⟩ := hrel
    by_cases hlt : k < ns.length
    · obtain ⟨c, hc⟩ : ∃ c, ns[k] = c := ⟨_, rfl⟩
      have c1 : wr.cell? ⟨ab, ao + k, none⟩ = some (.int .i64 (c : Int)) := by
        have := HAC.out k (by rw [ints_length]; exact hlt)
        rw [ints_at hlt, hc] at this
        exact (hB.cell (p := ⟨ab, ao + k, none⟩) hab).trans this
      have hsn : leaves 0 (ns.take (k + 1)) = leaves 0 (ns.take k) ++ if 0 < c then [.leaf c k] else [] := by
        rw [List.take_succ_eq_append_getElem hlt, hc, leaves_snoc, List.length_take, Nat.min_eq_left (by omega), Nat.zero_add]
      have i0 : (0 : Int) ≤ (k : Int) := by omega
      have i1 : (k : Int) < (ns.length : Int) := by omega
      have HSN := Lib.hid hsn
      clear hc hsn
      by_cases h0 : 0 < c
      · have j0 : (0 : Int) < (c : Int) := by omega
        have hs1 : w.heap.size + 1 ≤ wr.heap.size := hS
        go_wp2_with (at_builtin; refine wpList_append_own _ rfl _ _ 54 rfl (w.heap.size + 1) 56 i3 _ 4 48 Try.underlying54 hi3 hz0 hz1 hz2 rfl (by decide) _ rl.length _ rfl ((HL.out.own.alloc _).alloc _) ⟨wr.heap.size + 1, 0, none⟩ 1 1 [.int .i64 (c : Int), .bool true, .int .i64 (k : Int), .slice (some ⟨wr.heap.size, 0, none⟩) 1 1] rfl rfl (World.news_of_block (cs := #[.int .i64 (c : Int), .bool true, .int .i64 (k : Int), .slice (some ⟨wr.heap.size, 0, none⟩) 1 1]) (t := 56) (fr := (0, 0)) (by first | exact heap_alloc_new _ _ | (have := heap_alloc_new (wr.alloc (.cells #[.int .i64 (k : Int)] 3)) (.cells #[.int .i64 (c : Int), .bool true, .int .i64 (k : Int), .slice (some ⟨wr.heap.size, 0, none⟩) 1 1] 56); simpa using this))) (by simp [Value.oneCell']) (by unfold maxLen; omega) (by omega) (by simp; omega) ?_; intro v1 w1 hown1 hgrow1 hnil1)
        go_roundw
        case rel =>
          refine ⟨k + 1, rl ++ [⟨.leaf c k, some ⟨wr.heap.size, 0, none⟩, 1⟩], by go_num, by omega, by simp; omega, Lib.hid ?_, Lib.hid ?_, ?_, ?_⟩
          · rw [HSN.out, if_pos h0, List.map_append, HF.out]
            rfl
          · exact Lay.push (HL.out.later (w' := (wr.alloc (.cells #[.int .i64 (k : Int)] 3)).alloc (.cells #[.int .i64 (c : Int), .bool true, .int .i64 (k : Int), .slice (some ⟨wr.heap.size, 0, none⟩) 1 1] 56)) (by repeat' (first | with_reducible exact Below.refl _ _ | with_reducible refine Below.drew ?_ | with_reducible refine Below.alloc ?_ (by first | omega | (simp <;> omega)) _))) ((SymAt.leaf wr hs1).keep (KeepI.below ((Below.refl _ _).alloc (Nat.le_refl _) _))) hown1 rfl hgrow1
          · exact ((hB.alloc (by omega) _).alloc (by simp; omega) _).grown hgrow1 (by simp; omega) (fun g hg => by have := own_base4n HL.out.own g hg; omega)
          · have := hgrow1.size
            simp at this
            omega
        case measure => go_light; simp [intOf] <;> omega
      · have j0 : ¬ (0 : Int) < (c : Int) := by omega
        go_wp2
        go_roundw
        case rel =>
          refine ⟨k + 1, rl, by go_num, by omega, by omega, Lib.hid ?_, HL, hB, hS⟩
          rw [HSN.out, if_neg h0, List.append_nil]
          exact HF.out
        case measure => go_light; simp [intOf] <;> omega
    · have HF2 : Hid (rl.map RN.t = leaves 0 ns) := Lib.hid (by
        have := HF.out
        rwa [List.take_of_length_le (by omega)] at this)
      have HM0 : Hid (Mid ns 0 (rl.map RN.t) (List.replicate ns.length 0)) := Lib.hid (by
        rw [HF2.out]
        exact Mid.start H1.out)
      clear HF HF2
      go_wp2
      go_loopw [4, 6] (fun vl vm wr => ∃ (k : Nat) (rl : List RN) (out : List Nat), vm = .int .i64 (k : Int) ∧ Hid (Mid ns k (rl.map RN.t) out) ∧ Hid (Lay w.heap.size vl rl out wr) ∧ Below w.heap.size w wr ∧ w.heap.size < wr.heap.size) (fun _ vm _ => ns.length - (intOf vm).toNat)
      case atStart => exact ⟨0, rl, _, rfl, HM0, HL, hB, hS⟩
      case round =>
        clear HM0 HL hB hS hlt hk hrk
        obtain ⟨k, rl, out, rfl, HM, HL, hB, hS⟩ := hrel
        have hlen := HM.out.len
        have hkk := HM.out.hk
        have hll := leaves_le ns 0
        rw [List.length_map] at hlen
        obtain ⟨g, gc, rfl, hg⟩ := own_pos4 HL.out.own (by omega)
        by_cases hlt : 1 < rl.length
        · have hA : AgedL rl := fun x hx => HM.out.aged (List.mem_map_of_mem hx)
          have q1 := first_p g rl.length gc (w.heap.size + 1) rl wr rfl HL.out.own hA (by omega) (by omega)
          have t0 : (1 : Int) < (rl.length : Int) := by omega
          have HLT := Lib.hid hlt
          have hrn : rl.length ≤ 256 := by omega
          have hk2 : k < ns.length := by omega
          have HAA := Lib.hid hA
          clear hlen hkk hll hA hlt
          go_upto_region 13 with (first | (go_at_call 43; (with_reducible refine (first_p g1 q.length c1 wr.heap.size q (w1.alloc (.cells #[.int .i64 (x.t.cnt : Int), .bool x.t.isLeaf, .int .i64 (x.t.num : Int), .slice x.p x.t.syms.length x.c] 56)) rfl (hown1.alloc _) HA2.out (by omega) (by omega)).mono ?_); rintro e w2 ⟨y, r, pr, rfl, hown2, hp2, hm2, hne2, hb2⟩) | (go_at_call 43; (with_reducible refine q1.mono ?_); rintro e w1 ⟨x, q, pq, rfl, hown1, hp1, hm1, hne1, hb1⟩; obtain ⟨g1, c1, rfl, hg1⟩ := own_some4 hown1 hne1; (have hql : q.length + 1 = rl.length := (by (have := hp1.length_eq); simpa using this)); (have hql1 : 1 ≤ q.length := (by (have := HLT.out); omega)); (have HA2 : Hid (AgedL q) := Lib.hid (fun z hz => HAA.out z (hp1.mem_iff.1 (List.mem_cons_of_mem _ hz))))))
          have hs1 := hb1.size
          have hs2 := hb2.size
          simp at hs2
          have B1a : Below wr.heap.size wr (w1.alloc (.cells #[.int .i64 (x.t.cnt : Int), .bool x.t.isLeaf, .int .i64 (x.t.num : Int), .slice x.p x.t.syms.length x.c] 56)) := hb1.alloc hs1 _
          have B12 : Below wr.heap.size wr w2 := B1a.trans (hb2.mono (by simp; omega))
          have B13 : Below wr.heap.size wr (w2.alloc (.cells #[.int .i64 (y.t.cnt : Int), .bool y.t.isLeaf, .int .i64 (y.t.num : Int), .slice y.p y.t.syms.length y.c] 56)) := B12.alloc (by omega) _
          obtain ⟨W3, hW3⟩ : ∃ W3, w2.alloc (.cells #[.int .i64 (y.t.cnt : Int), .bool y.t.isLeaf, .int .i64 (y.t.num : Int), .slice y.p y.t.syms.length y.c] 56) = W3 := ⟨_, rfl⟩
          have hbx : ∀ j u, [Value.int .i64 (x.t.cnt : Int), .bool x.t.isLeaf, .int .i64 (x.t.num : Int), .slice x.p x.t.syms.length x.c][j]? = some u → W3.cell? ⟨w1.heap.size, j, none⟩ = some u := by
            intro j u hj
            rw [← hW3]
            have h1 := (Blk.new w1 56 #[.int .i64 (x.t.cnt : Int), .bool x.t.isLeaf, .int .i64 (x.t.num : Int), .slice x.p x.t.syms.length x.c]).later (hb2.alloc (by simp; omega) (.cells #[.int .i64 (y.t.cnt : Int), .bool y.t.isLeaf, .int .i64 (y.t.num : Int), .slice y.p y.t.syms.length y.c] 56))
            rw [h1.cell j]
            exact hj
          have hby : ∀ j u, [Value.int .i64 (y.t.cnt : Int), .bool y.t.isLeaf, .int .i64 (y.t.num : Int), .slice y.p y.t.syms.length y.c][j]? = some u → W3.cell? ⟨w2.heap.size, j, none⟩ = some u := by
            intro j u hj
            rw [← hW3]
            have h1 := Blk.new w2 56 #[.int .i64 (y.t.cnt : Int), .bool y.t.isLeaf, .int .i64 (y.t.num : Int), .slice y.p y.t.syms.length y.c]
            rw [h1.cell j]
            exact hj
          have hsz3 : W3.heap.size = w2.heap.size + 1 := by rw [← hW3]; simp
          obtain ⟨H3, hH3⟩ : ∃ n, W3.heap.size = n := ⟨_, rfl⟩
          rw [hH3] at hsz3
          have hxm : x ∈ rl := hp1.mem_iff.1 (by simp)
          have hym : y ∈ rl := hp1.mem_iff.1 (List.mem_cons_of_mem _ (hp2.mem_iff.1 (by simp)))
          have hrm : ∀ z ∈ r, z ∈ rl := fun z hz => hp1.mem_iff.1 (List.mem_cons_of_mem _ (hp2.mem_iff.1 (by simp [hz])))
          rw [hW3] at B13
          have L13 := HL.out.later B13
          have LR : Hid (Lay w.heap.size pr r out W3) := Lib.hid ⟨by
            rw [← hW3]
            refine (own_rebase4 hown2 ?_).alloc _
            simp
            omega, fun z hz => L13.sym z (hrm z hz), L13.arr⟩
          have SX := Lib.hid (L13.sym x hxm)
          have SY := Lib.hid (L13.sym y hym)
          have HNX := HM.out.next (x := x.t) (y := y.t) (q := q.map RN.t) (r := r.map RN.t) (hp1.map RN.t) (hp2.map RN.t) (fun z hz => by
            obtain ⟨u, hu, rfl⟩ := List.mem_map.1 hz
            exact hm1 u hu) (fun z hz => by
            obtain ⟨u, hu, rfl⟩ := List.mem_map.1 hz
            exact hm2 u hu)
          obtain ⟨HN1, hsum2, hnd, hle, hlt3⟩ := HNX
          have hrq : r.length + 1 = q.length := by have := hp2.length_eq; simpa using this
          have hs40 := HS.out
          have B3 : Below w.heap.size w W3 := hB.trans (B13.mono (by omega))
          obtain ⟨BX, hBX⟩ : ∃ n, w1.heap.size = n := ⟨_, rfl⟩
          obtain ⟨BY, hBY⟩ : ∃ n, w2.heap.size = n := ⟨_, rfl⟩
          rw [hBX] at hbx hs2 hs1
          rw [hBY] at hby hs2 hsz3
          rw [hBX, hBY, hW3]
          have bx0 := hbx 0 _ rfl
          have bx3 := hbx 3 _ rfl
          have by0 := hby 0 _ rfl
          have by3 := hby 3 _ rfl
          obtain ⟨C, hC⟩ : ∃ C, x.t.cnt + y.t.cnt = C := ⟨_, rfl⟩
          have e3 : IntKind.i64.wrap ((x.t.cnt : Int) + (y.t.cnt : Int)) = (C : Int) := by
            rw [show (x.t.cnt : Int) + (y.t.cnt : Int) = (C : Int) by omega]
            exact IntWalk.i64_in _ (by omega)
          obtain ⟨lx, hlx⟩ : ∃ n, x.t.syms.length = n := ⟨_, rfl⟩
          obtain ⟨ly, hly⟩ : ∃ n, y.t.syms.length = n := ⟨_, rfl⟩
          rw [List.length_append, hlx, hly] at hle
          rw [hlx] at bx3
          rw [hly] at by3
          have HLX := Lib.hid hlx
          have HLY := Lib.hid hly
          have HC := Lib.hid hC
          have HND := Lib.hid hnd
          have HL3 := Lib.hid hlt3
          have HMN := Lib.hid HN1
          have hOBX : w.heap.size < BX := by omega
          have HMK := HM
          clear HM
          have hYH : BY < H3 := by omega
          have hXH : BX < H3 := by omega
          clear hsz3
          clear hW3 hbx hby hb1 hb2 hp1 hp2 hm1 hm2 hown1 hown2 hne1 B1a B12 B13 L13 hxm hym hrm hBX hBY hnd hlt3 HN1 hs40 q1 HL HA2 HAA hlx hly hC hsum2
          have BW1 : Below H3 W3 (((W3.alloc (.cells #[.int .i64 0, .bool false, .int .i64 0, .slice none 0 0] 56)).alloc (.cells #[] 3)).drew) := (by rw [← hH3]; exact (by repeat' (first | with_reducible exact Below.refl _ _ | with_reducible refine Below.drew ?_ | with_reducible refine Below.alloc ?_ (by first | omega | (simp <;> omega)) _)))
          have OW1 : (((W3.alloc (.cells #[.int .i64 0, .bool false, .int .i64 0, .slice none 0 0] 56)).alloc (.cells #[] 3)).drew).ownsRow H3 3 1 (.slice (some ⟨H3 + 1, 0, none⟩) 0 0) 0 [] := ((own_rebase4 (own_made1n (W3.alloc (.cells #[.int .i64 0, .bool false, .int .i64 0, .slice none 0 0] 56)) 3 (H3 + 1) (by simp [hH3])) (by omega)).drew)
          have RX1 := (SX.out.keep (KeepI.below (hH3.symm ▸ BW1))).vals
          have BW2 : Below H3 W3 (((W3.alloc (.cells #[] 3)).alloc (.cells #[.int .i64 0, .bool false, .int .i64 0, .slice none 0 0] 56)).drew) := (by rw [← hH3]; exact (by repeat' (first | with_reducible exact Below.refl _ _ | with_reducible refine Below.drew ?_ | with_reducible refine Below.alloc ?_ (by first | omega | (simp <;> omega)) _)))
          have OW2 : (((W3.alloc (.cells #[] 3)).alloc (.cells #[.int .i64 0, .bool false, .int .i64 0, .slice none 0 0] 56)).drew).ownsRow H3 3 1 (.slice (some ⟨H3, 0, none⟩) 0 0) 0 [] := (((own_made1n W3 3 H3 hH3).alloc _).drew)
          have RX2 := (SX.out.keep (KeepI.below (hH3.symm ▸ BW2))).vals
          have BW3 : Below H3 W3 ((W3.alloc (.cells #[] 3)).drew) := (by rw [← hH3]; exact (by repeat' (first | with_reducible exact Below.refl _ _ | with_reducible refine Below.drew ?_ | with_reducible refine Below.alloc ?_ (by first | omega | (simp <;> omega)) _)))
          have OW3 : ((W3.alloc (.cells #[] 3)).drew).ownsRow H3 3 1 (.slice (some ⟨H3, 0, none⟩) 0 0) 0 [] := ((own_made1n W3 3 H3 hH3).drew)
          have RX3 := (SX.out.keep (KeepI.below (hH3.symm ▸ BW3))).vals
          have BZ1 : Blk (((W3.alloc (.cells #[.int .i64 0, .bool false, .int .i64 0, .slice none 0 0] 56)).alloc (.cells #[] 3)).drew) H3 56 [.int .i64 0, .bool false, .int .i64 0, .slice none 0 0] := (by rw [← hH3]; exact (Blk.new W3 56 #[.int .i64 0, .bool false, .int .i64 0, .slice none 0 0]).later (by repeat' (first | with_reducible exact Below.refl _ _ | with_reducible refine Below.drew ?_ | with_reducible refine Below.alloc ?_ (by first | omega | (simp <;> omega)) _)))
          have BZ2 : Blk (((W3.alloc (.cells #[] 3)).alloc (.cells #[.int .i64 0, .bool false, .int .i64 0, .slice none 0 0] 56)).drew) (H3 + 1) 56 [.int .i64 0, .bool false, .int .i64 0, .slice none 0 0] := by
            have := Blk.new (W3.alloc (.cells #[] 3)) 56 #[.int .i64 0, .bool false, .int .i64 0, .slice none 0 0]
            have e : (W3.alloc (.cells #[] 3)).heap.size = H3 + 1 := by simp [hH3]
            rw [e] at this
            exact this
          go_cut [10] from 52 to 65 (fun s10 wx => ∃ (ZB : Nat) (p2 : Option Addr) (c2 : Nat), s10 = .pointer (some ⟨ZB, 0, none⟩) ∧ Hid (Blk wx ZB 56 [.int .i64 (C : Int), .bool false, .int .i64 (k : Int), .slice p2 (lx + ly) c2]) ∧ Hid (wx.ownsRow H3 3 1 (.slice p2 (lx + ly) c2) (lx + ly) ((ints x.t.syms).map (Value.int .i64) ++ (ints y.t.syms).map (Value.int .i64))) ∧ Value.slice p2 (lx + ly) c2 ≠ .slice none 0 0 ∧ H3 ≤ ZB ∧ Below H3 W3 wx)
          case first =>
            go_region_held3 (fun w' => w'.cell? ⟨BX, 0, none⟩ = some (.int .i64 (x.t.cnt : Int)) ∧ w'.cell? ⟨BX, 3, none⟩ = some (.slice x.p lx x.c) ∧ w'.cell? ⟨BY, 0, none⟩ = some (.int .i64 (y.t.cnt : Int)) ∧ w'.cell? ⟨BY, 3, none⟩ = some (.slice y.p ly y.c)) (first | (simp [go_sem, *]; done) | go_keep) ((first | ((refine step_append_any (by rfl) _ _ _ (by rfl) H3 3 inf (.int .i64 0) 1 8 Try.underlying22 hinf hy0 hy1 hy2 rfl (by omega) (.slice (some ⟨H3 + 1, 0, none⟩) 0 0) 0 [] (by rfl) OW1 x.p lx x.c ((ints x.t.syms).map (Value.int .i64)) (by rfl) (by rw [List.length_map, ints_length, HLX.out]; omega) RX1 (ints_one _ _) (by unfold maxLen; omega) (by omega) (by first | omega | (simp [hH3]; done) | (simp [hH3]; omega)) (by simp) ?_); intro v1 w6 hown6 hgrow6 hne6; (have Bw6 : Below H3 W3 w6 := BW1.grown hgrow6 (by first | omega | (simp [hH3]; done) | (simp [hH3]; omega)) (own_base4n OW1)); (have hs6 : H3 ≤ w6.heap.size := (by (have := Bw6.size); omega)); (have SY6 := SY.out.keep (KeepI.below (hH3.symm ▸ Bw6))); (have kw60 : w6.cell? ⟨BX, 0, none⟩ = some (.int .i64 (x.t.cnt : Int)) := (Bw6.cell (p := ⟨BX, 0, none⟩) (show BX < H3 by omega)).trans bx0); (have kw61 : w6.cell? ⟨BX, 3, none⟩ = some (.slice x.p lx x.c) := (Bw6.cell (p := ⟨BX, 3, none⟩) (show BX < H3 by omega)).trans bx3); (have kw62 : w6.cell? ⟨BY, 0, none⟩ = some (.int .i64 (y.t.cnt : Int)) := (Bw6.cell (p := ⟨BY, 0, none⟩) (show BY < H3 by omega)).trans by0); (have kw63 : w6.cell? ⟨BY, 3, none⟩ = some (.slice y.p ly y.c) := (Bw6.cell (p := ⟨BY, 3, none⟩) (show BY < H3 by omega)).trans by3); (have bz6 : Blk w6 H3 56 [.int .i64 0, .bool false, .int .i64 0, .slice none 0 0] := grow_box OW1 hgrow6 BZ1)) | ((refine step_append_any (by rfl) _ _ _ (by rfl) H3 3 inf (.int .i64 0) 1 8 Try.underlying22 hinf hy0 hy1 hy2 rfl (by omega) (.slice (some ⟨H3, 0, none⟩) 0 0) 0 [] (by rfl) OW2 x.p lx x.c ((ints x.t.syms).map (Value.int .i64)) (by rfl) (by rw [List.length_map, ints_length, HLX.out]; omega) RX2 (ints_one _ _) (by unfold maxLen; omega) (by omega) (by first | omega | (simp [hH3]; done) | (simp [hH3]; omega)) (by simp) ?_); intro v1 w6 hown6 hgrow6 hne6; (have Bw6 : Below H3 W3 w6 := BW2.grown hgrow6 (by first | omega | (simp [hH3]; done) | (simp [hH3]; omega)) (own_base4n OW2)); (have hs6 : H3 ≤ w6.heap.size := (by (have := Bw6.size); omega)); (have SY6 := SY.out.keep (KeepI.below (hH3.symm ▸ Bw6))); (have kw60 : w6.cell? ⟨BX, 0, none⟩ = some (.int .i64 (x.t.cnt : Int)) := (Bw6.cell (p := ⟨BX, 0, none⟩) (show BX < H3 by omega)).trans bx0); (have kw61 : w6.cell? ⟨BX, 3, none⟩ = some (.slice x.p lx x.c) := (Bw6.cell (p := ⟨BX, 3, none⟩) (show BX < H3 by omega)).trans bx3); (have kw62 : w6.cell? ⟨BY, 0, none⟩ = some (.int .i64 (y.t.cnt : Int)) := (Bw6.cell (p := ⟨BY, 0, none⟩) (show BY < H3 by omega)).trans by0); (have kw63 : w6.cell? ⟨BY, 3, none⟩ = some (.slice y.p ly y.c) := (Bw6.cell (p := ⟨BY, 3, none⟩) (show BY < H3 by omega)).trans by3); (have bz6 : Blk w6 (H3 + 1) 56 [.int .i64 0, .bool false, .int .i64 0, .slice none 0 0] := grow_box OW2 hgrow6 BZ2)) | ((refine step_append_any (by rfl) _ _ _ (by rfl) H3 3 inf (.int .i64 0) 1 8 Try.underlying22 hinf hy0 hy1 hy2 rfl (by omega) (.slice (some ⟨H3, 0, none⟩) 0 0) 0 [] (by rfl) OW3 x.p lx x.c ((ints x.t.syms).map (Value.int .i64)) (by rfl) (by rw [List.length_map, ints_length, HLX.out]; omega) RX3 (ints_one _ _) (by unfold maxLen; omega) (by omega) (by first | omega | (simp [hH3]; done) | (simp [hH3]; omega)) (by simp) ?_); intro v1 w6 hown6 hgrow6 hne6; (have Bw6 : Below H3 W3 w6 := BW3.grown hgrow6 (by first | omega | (simp [hH3]; done) | (simp [hH3]; omega)) (own_base4n OW3)); (have hs6 : H3 ≤ w6.heap.size := (by (have := Bw6.size); omega)); (have SY6 := SY.out.keep (KeepI.below (hH3.symm ▸ Bw6))); (have kw60 : w6.cell? ⟨BX, 0, none⟩ = some (.int .i64 (x.t.cnt : Int)) := (Bw6.cell (p := ⟨BX, 0, none⟩) (show BX < H3 by omega)).trans bx0); (have kw61 : w6.cell? ⟨BX, 3, none⟩ = some (.slice x.p lx x.c) := (Bw6.cell (p := ⟨BX, 3, none⟩) (show BX < H3 by omega)).trans bx3); (have kw62 : w6.cell? ⟨BY, 0, none⟩ = some (.int .i64 (y.t.cnt : Int)) := (Bw6.cell (p := ⟨BY, 0, none⟩) (show BY < H3 by omega)).trans by0); (have kw63 : w6.cell? ⟨BY, 3, none⟩ = some (.slice y.p ly y.c) := (Bw6.cell (p := ⟨BY, 3, none⟩) (show BY < H3 by omega)).trans by3)) | ((have bz66 : Blk w6 H3 56 [.int .i64 0, .bool false, .int .i64 0, .slice none 0 0] := bz6); (refine step_append_any (by rfl) _ _ _ (by rfl) H3 3 inf (.int .i64 0) 1 8 Try.underlying22 hinf hy0 hy1 hy2 rfl (by omega) v1 (0 + lx) _ (by rfl) hown6 y.p ly y.c ((ints y.t.syms).map (Value.int .i64)) (by rfl) (by rw [List.length_map, ints_length, HLY.out]; omega) SY6.vals (ints_one _ _) (by unfold maxLen; omega) (by omega) (by first | omega | (simp [hH3]; done) | (simp [hH3]; omega)) hne6 ?_); intro v2 w7 hown7 hgrow7 hne7; obtain ⟨p2, c2, rfl⟩ := own_slice4n hown7; (have Bw7 : Below H3 W3 w7 := Bw6.grown hgrow7 (by first | omega | (simp [hH3]; done) | (simp [hH3]; omega)) (own_base4n hown6)); (have hs7 : H3 ≤ w7.heap.size := (by (have := Bw7.size); omega)); (have kw70 : w7.cell? ⟨BX, 0, none⟩ = some (.int .i64 (x.t.cnt : Int)) := (Bw7.cell (p := ⟨BX, 0, none⟩) (show BX < H3 by omega)).trans bx0); (have kw71 : w7.cell? ⟨BX, 3, none⟩ = some (.slice x.p lx x.c) := (Bw7.cell (p := ⟨BX, 3, none⟩) (show BX < H3 by omega)).trans bx3); (have kw72 : w7.cell? ⟨BY, 0, none⟩ = some (.int .i64 (y.t.cnt : Int)) := (Bw7.cell (p := ⟨BY, 0, none⟩) (show BY < H3 by omega)).trans by0); (have kw73 : w7.cell? ⟨BY, 3, none⟩ = some (.slice y.p ly y.c) := (Bw7.cell (p := ⟨BY, 3, none⟩) (show BY < H3 by omega)).trans by3); (have bz7 : Blk w7 H3 56 [.int .i64 0, .bool false, .int .i64 0, .slice none 0 0] := grow_box hown6 hgrow7 bz66); (have z0 : w7.cell? ⟨H3, 0, none⟩ = some (.int .i64 0) := (bz7.cell 0)); (have fz0 : w7.frozen? ⟨H3, 0, none⟩ = false := bz7.frozen 0); (have z1 : w7.cell? ⟨H3, 1, none⟩ = some (.bool false) := (bz7.cell 1)); (have fz1 : w7.frozen? ⟨H3, 1, none⟩ = false := bz7.frozen 1); (have z2 : w7.cell? ⟨H3, 2, none⟩ = some (.int .i64 0) := (bz7.cell 2)); (have fz2 : w7.frozen? ⟨H3, 2, none⟩ = false := bz7.frozen 2); (have z3 : w7.cell? ⟨H3, 3, none⟩ = some (.slice none 0 0) := (bz7.cell 3)); (have fz3 : w7.frozen? ⟨H3, 3, none⟩ = false := bz7.frozen 3)) | ((have bz66 : Blk w6 (H3 + 1) 56 [.int .i64 0, .bool false, .int .i64 0, .slice none 0 0] := bz6); (refine step_append_any (by rfl) _ _ _ (by rfl) H3 3 inf (.int .i64 0) 1 8 Try.underlying22 hinf hy0 hy1 hy2 rfl (by omega) v1 (0 + lx) _ (by rfl) hown6 y.p ly y.c ((ints y.t.syms).map (Value.int .i64)) (by rfl) (by rw [List.length_map, ints_length, HLY.out]; omega) SY6.vals (ints_one _ _) (by unfold maxLen; omega) (by omega) (by first | omega | (simp [hH3]; done) | (simp [hH3]; omega)) hne6 ?_); intro v2 w7 hown7 hgrow7 hne7; obtain ⟨p2, c2, rfl⟩ := own_slice4n hown7; (have Bw7 : Below H3 W3 w7 := Bw6.grown hgrow7 (by first | omega | (simp [hH3]; done) | (simp [hH3]; omega)) (own_base4n hown6)); (have hs7 : H3 ≤ w7.heap.size := (by (have := Bw7.size); omega)); (have kw70 : w7.cell? ⟨BX, 0, none⟩ = some (.int .i64 (x.t.cnt : Int)) := (Bw7.cell (p := ⟨BX, 0, none⟩) (show BX < H3 by omega)).trans bx0); (have kw71 : w7.cell? ⟨BX, 3, none⟩ = some (.slice x.p lx x.c) := (Bw7.cell (p := ⟨BX, 3, none⟩) (show BX < H3 by omega)).trans bx3); (have kw72 : w7.cell? ⟨BY, 0, none⟩ = some (.int .i64 (y.t.cnt : Int)) := (Bw7.cell (p := ⟨BY, 0, none⟩) (show BY < H3 by omega)).trans by0); (have kw73 : w7.cell? ⟨BY, 3, none⟩ = some (.slice y.p ly y.c) := (Bw7.cell (p := ⟨BY, 3, none⟩) (show BY < H3 by omega)).trans by3); (have bz7 : Blk w7 (H3 + 1) 56 [.int .i64 0, .bool false, .int .i64 0, .slice none 0 0] := grow_box hown6 hgrow7 bz66); (have z0 : w7.cell? ⟨(H3 + 1), 0, none⟩ = some (.int .i64 0) := (bz7.cell 0)); (have fz0 : w7.frozen? ⟨(H3 + 1), 0, none⟩ = false := bz7.frozen 0); (have z1 : w7.cell? ⟨(H3 + 1), 1, none⟩ = some (.bool false) := (bz7.cell 1)); (have fz1 : w7.frozen? ⟨(H3 + 1), 1, none⟩ = false := bz7.frozen 1); (have z2 : w7.cell? ⟨(H3 + 1), 2, none⟩ = some (.int .i64 0) := (bz7.cell 2)); (have fz2 : w7.frozen? ⟨(H3 + 1), 2, none⟩ = false := bz7.frozen 2); (have z3 : w7.cell? ⟨(H3 + 1), 3, none⟩ = some (.slice none 0 0) := (bz7.cell 3)); (have fz3 : w7.frozen? ⟨(H3 + 1), 3, none⟩ = false := bz7.frozen 3)) | ((refine step_append_any (by rfl) _ _ _ (by rfl) H3 3 inf (.int .i64 0) 1 8 Try.underlying22 hinf hy0 hy1 hy2 rfl (by omega) v1 (0 + lx) _ (by rfl) (hown6.alloc _) y.p ly y.c ((ints y.t.syms).map (Value.int .i64)) (by rfl) (by rw [List.length_map, ints_length, HLY.out]; omega) (SY6.keep (KeepI.below ((Below.refl _ _).alloc (Nat.le_refl _) _))).vals (ints_one _ _) (by unfold maxLen; omega) (by omega) (by first | omega | (simp [hH3]; done) | (simp [hH3]; omega)) hne6 ?_); intro v2 w7 hown7 hgrow7 hne7; obtain ⟨p2, c2, rfl⟩ := own_slice4n hown7; (have Bw7 : Below H3 W3 w7 := (Bw6.alloc hs6 _).grown hgrow7 (by first | omega | (simp [hH3]; done) | (simp [hH3]; omega)) (own_base4n hown6)); (have hs7 : H3 ≤ w7.heap.size := (by (have := Bw7.size); omega)); (have kw70 : w7.cell? ⟨BX, 0, none⟩ = some (.int .i64 (x.t.cnt : Int)) := (Bw7.cell (p := ⟨BX, 0, none⟩) (show BX < H3 by omega)).trans bx0); (have kw71 : w7.cell? ⟨BX, 3, none⟩ = some (.slice x.p lx x.c) := (Bw7.cell (p := ⟨BX, 3, none⟩) (show BX < H3 by omega)).trans bx3); (have kw72 : w7.cell? ⟨BY, 0, none⟩ = some (.int .i64 (y.t.cnt : Int)) := (Bw7.cell (p := ⟨BY, 0, none⟩) (show BY < H3 by omega)).trans by0); (have kw73 : w7.cell? ⟨BY, 3, none⟩ = some (.slice y.p ly y.c) := (Bw7.cell (p := ⟨BY, 3, none⟩) (show BY < H3 by omega)).trans by3); (have bz7 : Blk w7 w6.heap.size 56 [.int .i64 0, .bool false, .int .i64 0, .slice none 0 0] := grow_box (hown6.alloc (.cells #[.int .i64 0, .bool false, .int .i64 0, .slice none 0 0] 56)) hgrow7 (Blk.new w6 56 #[.int .i64 0, .bool false, .int .i64 0, .slice none 0 0])); (have z0 : w7.cell? ⟨w6.heap.size, 0, none⟩ = some (.int .i64 0) := (bz7.cell 0)); (have fz0 : w7.frozen? ⟨w6.heap.size, 0, none⟩ = false := bz7.frozen 0); (have z1 : w7.cell? ⟨w6.heap.size, 1, none⟩ = some (.bool false) := (bz7.cell 1)); (have fz1 : w7.frozen? ⟨w6.heap.size, 1, none⟩ = false := bz7.frozen 1); (have z2 : w7.cell? ⟨w6.heap.size, 2, none⟩ = some (.int .i64 0) := (bz7.cell 2)); (have fz2 : w7.frozen? ⟨w6.heap.size, 2, none⟩ = false := bz7.frozen 2); (have z3 : w7.cell? ⟨w6.heap.size, 3, none⟩ = some (.slice none 0 0) := (bz7.cell 3)); (have fz3 : w7.frozen? ⟨w6.heap.size, 3, none⟩ = false := bz7.frozen 3)) | ((refine step_append_any (by rfl) _ _ _ (by rfl) H3 3 inf (.int .i64 0) 1 8 Try.underlying22 hinf hy0 hy1 hy2 rfl (by omega) v1 (0 + lx) _ (by rfl) hown6 y.p ly y.c ((ints y.t.syms).map (Value.int .i64)) (by rfl) (by rw [List.length_map, ints_length, HLY.out]; omega) SY6.vals (ints_one _ _) (by unfold maxLen; omega) (by omega) (by first | omega | (simp [hH3]; done) | (simp [hH3]; omega)) hne6 ?_); intro v2 w7 hown7 hgrow7 hne7; obtain ⟨p2, c2, rfl⟩ := own_slice4n hown7; (have Bw7 : Below H3 W3 w7 := Bw6.grown hgrow7 (by first | omega | (simp [hH3]; done) | (simp [hH3]; omega)) (own_base4n hown6)); (have hs7 : H3 ≤ w7.heap.size := (by (have := Bw7.size); omega)); (have kw70 : w7.cell? ⟨BX, 0, none⟩ = some (.int .i64 (x.t.cnt : Int)) := (Bw7.cell (p := ⟨BX, 0, none⟩) (show BX < H3 by omega)).trans bx0); (have kw71 : w7.cell? ⟨BX, 3, none⟩ = some (.slice x.p lx x.c) := (Bw7.cell (p := ⟨BX, 3, none⟩) (show BX < H3 by omega)).trans bx3); (have kw72 : w7.cell? ⟨BY, 0, none⟩ = some (.int .i64 (y.t.cnt : Int)) := (Bw7.cell (p := ⟨BY, 0, none⟩) (show BY < H3 by omega)).trans by0); (have kw73 : w7.cell? ⟨BY, 3, none⟩ = some (.slice y.p ly y.c) := (Bw7.cell (p := ⟨BY, 3, none⟩) (show BY < H3 by omega)).trans by3))))
            all_goals (go_wp2_with fail; go_meet; go_light)
            · rw [Nat.zero_add, List.nil_append] at hown7
              rw [Nat.zero_add] at hne7
              exact ⟨_, p2, c2, rfl, Lib.hid (Blk.new w7 56 #[.int .i64 (C : Int), .bool false, .int .i64 (k : Int), .slice p2 (lx + ly) c2]), Lib.hid (hown7.alloc _), hne7, hs7, Bw7.alloc hs7 _⟩
            · rw [Nat.zero_add, List.nil_append] at hown7
              rw [Nat.zero_add] at hne7
              obtain ⟨hS1, hS2⟩ := set_box hown7 bz7 (.int .i64 (C : Int)) (.bool false) (.int .i64 (k : Int)) (.slice p2 (lx + ly) c2)
              have hge : H3 ≤ w6.heap.size := by omega
              exact ⟨_, p2, c2, rfl, Lib.hid hS1, Lib.hid hS2, hne7, hge, (((Bw7.setCell hge _).setCell hge _).setCell hge _).setCell hge _⟩
            · rw [Nat.zero_add, List.nil_append] at hown7
              rw [Nat.zero_add] at hne7
              obtain ⟨hS1, hS2⟩ := set_box hown7 bz7 (.int .i64 (C : Int)) (.bool false) (.int .i64 (k : Int)) (.slice p2 (lx + ly) c2)
              have hge : H3 ≤ H3 + 1 := by omega
              exact ⟨_, p2, c2, rfl, Lib.hid hS1, Lib.hid hS2, hne7, hge, (((Bw7.setCell hge _).setCell hge _).setCell hge _).setCell hge _⟩
            · rw [Nat.zero_add, List.nil_append] at hown7
              rw [Nat.zero_add] at hne7
              obtain ⟨hS1, hS2⟩ := set_box hown7 bz7 (.int .i64 (C : Int)) (.bool false) (.int .i64 (k : Int)) (.slice p2 (lx + ly) c2)
              have hge : H3 ≤ H3 := by omega
              exact ⟨_, p2, c2, rfl, Lib.hid hS1, Lib.hid hS2, hne7, hge, (((Bw7.setCell hge _).setCell hge _).setCell hge _).setCell hge _⟩
          case rest =>
            clear BW1 OW1 RX1 BW2 OW2 RX2 BW3 OW3 RX3 BZ1 BZ2 bx0 bx3 by0 by3 e3
            obtain ⟨ZB, p2, c2, rfl, HZ, HO2, hne, hZB, hBc⟩ := hcut
            have hBc3 : Below W3.heap.size W3 wc := by rw [hH3]; exact hBc
            have LC := Lib.hid (LR.out.later hBc3)
            obtain ⟨S, hS0⟩ : ∃ S, x.t.syms ++ y.t.syms = S := ⟨_, rfl⟩
            have hSl : S.length = lx + ly := by rw [← hS0, List.length_append, HLX.out, HLY.out]
            obtain ⟨z, hz⟩ : ∃ z : RN, z = ⟨.join C (k + 1) x.t y.t, p2, c2⟩ := ⟨_, rfl⟩
            have hzs : z.t.syms = S := by rw [hz, ← hS0]; exact syms_join _ _ _ _
            have HZS := Lib.hid hzs
            have SZ : SymAt (w.heap.size + 1) wc z := by
              refine SymAt.of_own (n := lx + ly) (c := c2) (b0 := H3) ?_ ?_ (by omega)
              · rw [hzs, ← hS0, hz]
                have e : ints (x.t.syms ++ y.t.syms) = ints x.t.syms ++ ints y.t.syms := by simp [ints]
                rw [e, List.map_append]
                exact HO2.out
              · rw [hz]
                exact hne
            have hzc := HZ.out
            obtain ⟨G, hG, hGO, hGl, hGc⟩ := SZ.cell
            rw [hz] at hG
            dsimp only at hG
            subst hG
            rw [hzs] at hGc
            have HSZ := Lib.hid SZ
            have HGC := Lib.hid hGc
            have hn := HND.out
            rw [hS0] at hn
            have hl3 := HL3.out
            rw [hS0] at hl3
            have HN3 := Lib.hid hn
            have HS3 := Lib.hid hl3
            have hm := HMN.out
            rw [hS0, HC.out] at hm
            have HM3 := Lib.hid hm
            have ho := hm.isout.1
            rw [incL_length] at ho
            have BC : Below w.heap.size w wc := B3.trans (hBc.mono (by omega))
            have hOc : w.heap.size < wc.heap.size := by have := BC.size; have := hBc.size; omega
            have HLOW := Lib.hid HMK.out.low
            clear hn hl3 hm hGc SZ hne hBc3 hzc SX SY LR HMN HND HL3 HLX HLY HC
            go_wp2
            go_loopw [11] (fun vi wq => ∃ i : Nat, vi = .int .i64 (i : Int) ∧ i ≤ lx + ly ∧ Hid (Arr wq w.heap.size 3 (ints (incL (S.take i) out))) ∧ But (fun k => k = w.heap.size) wc wq) (fun vi _ => lx + ly - (intOf vi).toNat)
            case atStart => exact ⟨0, rfl, Nat.zero_le _, Lib.hid LC.out.arr, But.refl _ _⟩
            case round =>
              obtain ⟨i, rfl, hi, HA, hBu⟩ := hrel
              have zc0 : wr.cell? ⟨ZB, 0, none⟩ = some (.int .i64 (C : Int)) := hBu.cell (a := ⟨ZB, 0, none⟩) (show ¬ ZB = w.heap.size by omega) (HZ.out.cell 0)
              have zc1 : wr.cell? ⟨ZB, 1, none⟩ = some (.bool false) := hBu.cell (a := ⟨ZB, 1, none⟩) (show ¬ ZB = w.heap.size by omega) (HZ.out.cell 1)
              have zc2 : wr.cell? ⟨ZB, 2, none⟩ = some (.int .i64 (k : Int)) := hBu.cell (a := ⟨ZB, 2, none⟩) (show ¬ ZB = w.heap.size by omega) (HZ.out.cell 2)
              have zc3 : wr.cell? ⟨ZB, 3, none⟩ = some (.slice (some ⟨G, 0, none⟩) (lx + ly) c2) := hBu.cell (a := ⟨ZB, 3, none⟩) (show ¬ ZB = w.heap.size by omega) (HZ.out.cell 3)
              have hOw : w.heap.size < wr.heap.size := Nat.lt_of_lt_of_le hOc hBu.size
              by_cases hlt : i < lx + ly
              · obtain ⟨t, ht⟩ : ∃ t, S[i]? = some t := ⟨_, List.getElem?_eq_getElem (by omega)⟩
                have hgc : wr.cell? ⟨G, i, none⟩ = some (.int .i64 (t : Int)) := hBu.cell (a := ⟨G, i, none⟩) (show ¬ G = w.heap.size by omega) (HGC.out i t ht)
                have htn : t < ns.length := HS3.out t (List.mem_of_getElem? ht)
                obtain ⟨d, hd⟩ : ∃ d, (incL (S.take i) out)[t]? = some d := ⟨_, List.getElem?_eq_getElem (by rw [incL_length]; omega)⟩
                have hd1 : d ≤ k + 1 := by
                  have hm := HM3.out
                  refine incL_le (List.Sublist.nodup (List.take_sublist _ _) HN3.out) HLOW.out d (List.mem_of_getElem? hd)
                have hoc : wr.cell? ⟨w.heap.size, t, none⟩ = some (.int .i64 (d : Int)) := by
                  have := Blk.cell HA.out t
                  rw [this]
                  simp [ints, hd]
                have hof : wr.frozen? ⟨w.heap.size, t, none⟩ = false := Blk.frozen HA.out t
                have hnx : incL (S.take (i + 1)) out = (incL (S.take i) out).set t (d + 1) := by
                  rw [List.take_add_one, ht]
                  show incL (S.take i ++ [t]) out = _
                  rw [incL_snoc, List.getD_eq_getElem?_getD, hd]
                  rfl
                have HNX := Lib.hid hnx
                have e9 : IntKind.i64.wrap ((d : Int) + 1) = (d : Int) + 1 := IntWalk.i64_in _ (by omega)
                have i0 : (0 : Int) ≤ (i : Int) := by omega
                have i1 : (i : Int) < (lx : Int) + (ly : Int) := by omega
                have t0 : (0 : Int) ≤ (t : Int) := by omega
                have t1 : (t : Int) < (ns.length : Int) := by omega
                clear hnx hd ht
                go_wp2
                go_roundw
                case rel =>
                  refine ⟨i + 1, by go_num, by omega, Lib.hid ?_, hBu.trans (But.setCell (S := fun k => k = w.heap.size) wr _ rfl)⟩
                  rw [HNX.out]
                  have := Arr.set HA.out t ((d : Int) + 1)
                  have e : ints ((incL (S.take i) out).set t (d + 1)) = (ints (incL (S.take i) out)).set t ((d : Int) + 1) := by simp [ints, List.map_set]
                  rw [e]
                  exact this
                case measure => go_light; simp [intOf] <;> omega
              · obtain rfl : i = lx + ly := by omega
                have HA2 : Hid (Arr wr w.heap.size 3 (ints (incL S out))) := Lib.hid (by
                  have := HA.out
                  rwa [List.take_of_length_le (by omega)] at this)
                clear HA
                have LQ : Hid (Lay w.heap.size pr r (incL S out) wr) := Lib.hid ⟨hBu.ownsRow LC.out.own (fun k hk hS => by omega), fun u hu => (LC.out.sym u hu).keep (keepI_but hBu), HA2.out⟩
                have SQ := HSZ.out.keep (keepI_but hBu)
                have HSQ := Lib.hid SQ
                have BQ : Below w.heap.size w wr := hBu.below BC (fun k hk hS => by omega) (by omega)
                have hrl : r.length ≤ 256 := by omega
                have HZE := Lib.hid hz
                clear SQ HA2 hz hzs
                go_wp2_with (at_builtin; refine wpList_append_own _ rfl _ _ 54 rfl (w.heap.size + 1) 56 i3 _ 4 48 Try.underlying54 hi3 hz0 hz1 hz2 rfl (by decide) pr r.length _ rfl (LQ.out.own.alloc _) ⟨wr.heap.size, 0, none⟩ 1 1 [.int .i64 (C : Int), .bool false, .int .i64 (k : Int), .slice (some ⟨G, 0, none⟩) (lx + ly) c2] rfl rfl (World.news_of_block (cs := #[.int .i64 (C : Int), .bool false, .int .i64 (k : Int), .slice (some ⟨G, 0, none⟩) (lx + ly) c2]) (t := 56) (fr := (0, 0)) (heap_alloc_new _ _)) (by simp [Value.oneCell']) (by unfold maxLen; omega) (by omega) (by simp; omega) ?_; intro v9 w9 hown9 hgrow9 hnil9)
                go_roundw
                case rel =>
                  have hm := HM3.out
                  refine ⟨k + 1, r ++ [z], incL S out, by go_num, Lib.hid ?_, Lib.hid ?_, ?_, ?_⟩
                  · rw [List.map_append]
                    have e : [z].map RN.t = [HT.join C (k + 1) x.t y.t] := by rw [HZE.out]; rfl
                    rw [e]
                    exact hm
                  · refine Lay.push (LQ.out.later (w' := wr.alloc (.cells #[.int .i64 (C : Int), .bool false, .int .i64 (k : Int), .slice (some ⟨G, 0, none⟩) (lx + ly) c2] 56)) (by repeat' (first | with_reducible exact Below.refl _ _ | with_reducible refine Below.drew ?_ | with_reducible refine Below.alloc ?_ (by first | omega | (simp <;> omega)) _))) (HSQ.out.keep (KeepI.below ((Below.refl _ _).alloc (Nat.le_refl _) _))) ?_ rfl hgrow9
                    have e : z.cells = [.int .i64 (C : Int), .bool false, .int .i64 (k : Int), .slice (some ⟨G, 0, none⟩) (lx + ly) c2] := by
                      unfold RN.cells
                      have e2 : z.t.syms.length = lx + ly := by rw [HZS.out]; exact hSl
                      rw [e2, HZE.out]
                      rfl
                    rw [e]
                    exact hown9
                  · exact (BQ.alloc (by omega) _).grown hgrow9 (by simp; omega) (fun g hg => by have := own_base4n LQ.out.own g hg; omega)
                  · have := hgrow9.size
                    simp at this
                    omega
                case measure => go_light; simp [intOf] <;> omega
        · have hdone := HM.out.done (by rw [List.length_map]; omega)
          have t0 : ¬ (1 : Int) < (rl.length : Int) := by omega
          have HDN := Lib.hid hdone
          have HOL := Lib.hid HM.out.isout.1
          have HAR := Lib.hid HL.out.arr
          clear hdone HM HL hlen hkk hll hlt
          go_wp2
          go_light
          refine bodyPost_ret (v := .slice (some ⟨w.heap.size, 0, none⟩) ns.length ns.length) (by simp [results, Try.results31, go_sem]) rfl ⟨w.heap.size, ?_, ?_, Nat.le_refl _, hB⟩
          · rw [← HDN.out, HOL.out]
          · rw [← HDN.out]
            exact HAR.out
end Go.Proofs.Ytmfgkimbehkdeaa
