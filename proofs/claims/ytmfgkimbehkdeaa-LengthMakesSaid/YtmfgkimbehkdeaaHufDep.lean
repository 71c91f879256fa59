/-
  The program's depths, walked.
-/
import Derived.Test.YtmfgkimbehkdeaaRows
import Derived.Test.YtmfgkimbehkdeaaHufDepP
import Derived.Test.YtmfgkimbehkdeaaCountsRange
import Derived.Test.YtmfgkimbehkdeaaRoundDraw
import Derived.Test.YtmfgkimbehkdeaaGBase
import Derived.Deep.Light
import Derived.Shelf.Abstract
import Derived.Shelf.RegionOpen
import Derived.OwnWalkIn
import Derived.TacticsInMore
import Derived.LoopNIn
import Derived.LoopIn
namespace Go.Proofs.Ytmfgkimbehkdeaa
open Go.RowKit
set_option linter.unusedSimpArgs false
set_option linter.unusedVariables false
attribute [local go_sem] Oper.semAt_some taN st_fn
/-- The forest F lies in the heap at H, whose row is new from b0 on. -/
def FAt (b0 H : Nat) (F : List HT) (W w : World) : Prop :=
  ∃ (g cap : Nat) (fl : List (Nat × HT)), HAt H g fl.length cap fl w ∧ HeapN plt fl fl.length ∧ (fl.map Prod.snd).Perm F ∧ b0 ≤ g ∧ Below b0 W w
def DepthsPost (L : List Nat) (w : World) (e : Ending) (w' : World) : Prop :=
  ∃ B, e = .returned (.slice (some ⟨B, 0, none⟩) L.length L.length) ∧ Arr w' B 3 (ints L) ∧ w.heap.size ≤ B ∧ Below w.heap.size w w'
theorem HAt.nk {H g n cap : Nat} {l : List (Nat × HT)} {X Y : World} (h : HAt H g n cap l X) (hb : But (fun k => k = g ∨ k = H) X Y) : NK 50 X Y := by
  obtain ⟨vs, h1, _⟩ := h.row
  have h2 := h.blk
  intro B us hB
  refine hb.block B _ ?_ hB
  unfold Blk at h1 h2 hB
  rintro (rfl | rfl)
  · rw [h1] at hB
    simp at hB
  · rw [h2] at hB
    simp at hB
/-- A leaf is pushed. -/
theorem FAt.push {b0 H g : Nat} {F : List HT} {W X Y : World} {fl l' : List (Nat × HT)} {B : Nat} {t : HT} {g' cap' : Nat} (hp : (fl.map Prod.snd).Perm F) (hg : b0 ≤ g) (hH : b0 ≤ H) (hX : Below b0 W X)
    (h1 : HAt H g' (fl.length + 1) cap' l' Y) (h2 : l'.Perm ((B, t) :: fl)) (h3 : HeapN plt l' (fl.length + 1)) (h4 : g' = g ∨ X.heap.size ≤ g') (h5 : But (fun k => k = g ∨ k = H) X Y) (hs : b0 ≤ X.heap.size) : FAt b0 H (t :: F) W Y := by
  have e : l'.length = fl.length + 1 := h1.len
  rw [← e] at h1 h3
  exact ⟨g', cap', l', h1, h3, push_perm h2 hp, by omega, h5.below hX (fun k hk hS => by omega) hs⟩
theorem perm_right {b0 H : Nat} {F G : List HT} {W w : World} (h : FAt b0 H F W w) (p : F.Perm G) : FAt b0 H G W w := by
  obtain ⟨g, cap, fl, h1, h2, h3, h4, h5⟩ := h
  exact ⟨g, cap, fl, h1, h2, h3.trans p, h4, h5⟩
theorem ints_at {ns : List Nat} {k : Nat} (h : k < ns.length) : (ints ns).getD k 0 = ((ns[k] : Nat) : Int) := by
  simp [ints, List.getD_eq_getElem?_getD, h]
set_option maxRecDepth 100000 in
set_option maxHeartbeats 4000000 in
theorem depths_p (a : Option Addr) (ns : List Nat) (cap : Nat) (w : World) (ha : Row .i64 w a (ints ns)) (hl : ns.length ≤ 256) (hsum : ns.sum ≤ 1099511627776) (h1 : 1 ≤ (leaves 0 ns).length) :
    Calls Try.prog 29 #[.slice a ns.length cap] w (DepthsPost (depthsL ns) w) := by
  have hn1 : 1 ≤ ns.length := by have := leaves_le ns 0; omega
  obtain ⟨ab, ao, rfl, hab, hac⟩ := ha.at (i := 0) (by rw [ints_length]; omega)
  have HAC := Lib.hid hac
  have hmk : ∀ W, (Instr.makeSlice 22 (.int .i64 (ns.length : Int)) (.int .i64 (ns.length : Int))).run Try.prog W = _ := fun W => mk_ints ns.length (by omega) W
  have H1 := Lib.hid h1
  have HS := Lib.hid hsum
  obtain ⟨W0, hW0⟩ : ∃ W0, (w.alloc (.cells #[] 48)).alloc (.cells #[.slice (some ⟨w.heap.size, 0, none⟩) 0 0] 46) = W0 := ⟨_, rfl⟩
  have F0 : FAt w.heap.size (w.heap.size + 1) (leaves 0 (ns.take 0)) w W0 := by
    rw [← hW0]
    refine ⟨w.heap.size, 0, [], ⟨?_, ⟨[], ?_, rfl, rfl⟩, rfl, Nat.le_refl _, Nat.zero_le _, fun p hp => (by cases hp), by omega⟩, fun i x y h0 h1 => absurd h1 (Nat.not_lt_zero _), List.Perm.refl _, Nat.le_refl _, ?_⟩
    · have := Blk.new (w.alloc (.cells #[] 48)) 46 #[.slice (some ⟨w.heap.size, 0, none⟩) 0 0]
      simpa using this
    · exact (Blk.new w 48 #[]).alloc _
    · exact ((Below.refl _ _).alloc (Nat.le_refl _) _).alloc (by simp) _
  clear h1 hsum hac ha
  go_enter Try.func29, Try.ntmps29
  go_wp2
  clear hW0
  go_loopw [15] (fun v wr => ∃ k : Nat, v = .int .i64 (k : Int) ∧ k ≤ ns.length ∧ FAt w.heap.size (w.heap.size + 1) (leaves 0 (ns.take k)) w wr) (fun v _ => ns.length - (intOf v).toNat)
  case atStart => exact ⟨0, rfl, Nat.zero_le _, F0⟩
  case round =>
    clear F0 W0
    obtain ⟨k, rfl, hk, hF⟩ := hrel
    by_cases hlt : k < ns.length
    · obtain ⟨g, gc, fl, hA, hP, hperm, hg, hB⟩ := hF
      obtain ⟨c, hc⟩ : ∃ c, ns[k] = c := ⟨_, rfl⟩
      have c1 : wr.cell? ⟨ab, ao + k, none⟩ = some (.int .i64 (c : Int)) := by
        have := HAC.out k (by rw [ints_length]; exact hlt)
        rw [ints_at hlt, hc] at this
        exact (hB.cell (p := ⟨ab, ao + k, none⟩) hab).trans this
      have hsn : leaves 0 (ns.take (k + 1)) = leaves 0 (ns.take k) ++ if 0 < c then [.leaf c k] else [] := by
        rw [List.take_succ_eq_append_getElem hlt, hc, leaves_snoc, List.length_take, Nat.min_eq_left (by omega), Nat.zero_add]
      have hfl : fl.length ≤ 256 := by
        have e1 := hperm.length_eq
        have e2 := leaves_le (ns.take k) 0
        simp at e1 e2
        omega
      have i0 : (0 : Int) ≤ (k : Int) := by omega
      have i1 : (k : Int) < (ns.length : Int) := by omega
      have HSN := Lib.hid hsn
      have hsz := hB.size
      clear hc hsn
      by_cases h0 : 0 < c
      · have j0 : (0 : Int) < (c : Int) := by omega
        have hA1 := hA.later (Y := wr.alloc (.cells #[.int .i64 (c : Int), .int .i64 (k : Int), .int .i64 0, .pointer none, .pointer none] 50)) (by repeat' (first | with_reducible exact Below.refl _ _ | with_reducible refine Below.drew ?_ | with_reducible refine Below.alloc ?_ (by first | omega | (simp <;> omega)) _))
        have hR : Rep 50 (wr.alloc (.cells #[.int .i64 (c : Int), .int .i64 (k : Int), .int .i64 0, .pointer none, .pointer none] 50)) wr.heap.size (.leaf c k) := Blk.new wr 50 #[.int .i64 (c : Int), .int .i64 (k : Int), .int .i64 0, .pointer none, .pointer none]
        have hB1 : Below w.heap.size w (wr.alloc (.cells #[.int .i64 (c : Int), .int .i64 (k : Int), .int .i64 0, .pointer none, .pointer none] 50)) := hB.alloc (by omega) _
        have HP := Lib.hid hP
        have HPERM := Lib.hid hperm
        have q := hpush_p hA1 hP hR (by omega)
        clear hP hperm hR hA1
        go_wp2_with (go_at_call 39; refine q.mono ?_; rintro e w1 ⟨rfl, g', cap', l', z1, z2, z3, z4, z5⟩)
        go_roundw
        case rel =>
          refine ⟨k + 1, by go_num, by omega, ?_⟩
          rw [HSN.out, if_pos h0]
          exact perm_right (FAt.push HPERM.out hg (by omega) hB1 z1 z2 z3 z4 z5 (by simp; omega)) (List.perm_append_singleton _ _).symm
        case measure => simp [intOf]; omega
      · have j0 : ¬ (0 : Int) < (c : Int) := by omega
        go_wp2
        go_roundw
        case rel =>
          refine ⟨k + 1, by go_num, by omega, ?_⟩
          rw [HSN.out, if_neg h0, List.append_nil]
          exact ⟨g, gc, fl, hA, hP, hperm, hg, hB⟩
        case measure => simp [intOf]; omega
    · have hF2 : FAt w.heap.size (w.heap.size + 1) (leaves 0 ns) w wr := by rwa [List.take_of_length_le (by omega)] at hF
      clear hF
      go_wp2
      go_loopw [6] (fun v wr => ∃ k : Nat, v = .int .i64 ((k : Int) + 1) ∧ Hid (k + 1 ≤ (leaves 0 ns).length) ∧ FAt w.heap.size (w.heap.size + 1) (huff k 1 (leaves 0 ns)) w wr) (fun v _ => ns.length - (intOf v).toNat)
      case atStart => exact ⟨0, rfl, H1, hF2⟩
      case round =>
        clear hF2
        obtain ⟨k, rfl, HK, hF⟩ := hrel
        obtain ⟨g, gc, fl, hA, hP, hperm, hg, hB⟩ := hF
        have hbox := hA.box
        have hsz := hB.size
        have hll := leaves_le ns 0
        have hfk : fl.length + k = (leaves 0 ns).length := by
          have e1 := hperm.length_eq
          rw [List.length_map] at e1
          rw [e1]
          exact huff_length k 1 (leaves 0 ns) (by omega) (leaves_told ns 0) HK.out
        have HFK := Lib.hid hfk
        have HP := Lib.hid hP
        have HPERM := Lib.hid hperm
        have hk1 : k < 256 := by have := HK.out; omega
        have k0 : (0 : Int) ≤ (k : Int) := by omega
        have k1 : (k : Int) + 1 < 10000 := by omega
        by_cases hlt : 1 < fl.length
        · obtain ⟨n, hn⟩ : ∃ n, fl.length = n + 2 := ⟨fl.length - 2, by omega⟩
          have hn2 : n < 256 := by omega
          rw [hn] at hA hP hbox
          have n1 : (1 : Int) < (n : Int) + 1 + 1 := by omega
          have n2 : (1 : Int) < (n : Int) + 2 := by omega
          have hkn : k + 2 ≤ ns.length := by omega
          have HN := Lib.hid hn
          have HHP := Lib.hid hP
          clear hP hperm hfk hn hlt hll HP
          have q1 := hpop_p (n := n + 1) hA HHP.out (by omega)
          go_wp2_with (first | (go_at_call 40; (with_reducible refine (len_p _ _ _ _).mono ?_); rintro e w2 ⟨rfl, hw2⟩; have hw3 := hw2.symm; subst hw3) | (go_at_call 41; (with_reducible refine (hpop_p (n := n) hA1 HH1.out (by omega)).mono ?_); rintro e w2 ⟨x2, l2, rfl, hA2, hp2, hm2, hH2, hB2⟩; have Hp2 := Lib.hid hp2; have Hm2 := Lib.hid hm2; have HH2 := Lib.hid hH2; clear hp2 hm2 hH2) | (go_at_call 41; (with_reducible refine q1.mono ?_); rintro e w1 ⟨x1, l1, rfl, hA1, hp1, hm1, hH1, hB1⟩; have Hp1 := Lib.hid hp1; have Hm1 := Lib.hid hm1; have HH1 := Lib.hid hH1; clear hp1 hm1 hH1))
          have N1 : NK 50 wr w1 := hA.nk hB1
          have N2 : NK 50 w1 w2 := hA1.nk hB2
          have R1 : Rep 50 w2 x1.1 x1.2 := ((hA.reps x1 (Hp1.out.mem_iff.1 (by simp))).nk N1).nk N2
          have R2 : Rep 50 w2 x2.1 x2.2 := (hA1.reps x2 (Hp2.out.mem_iff.1 (by simp))).nk N2
          have hsm := pair_sum HK.out HPERM.out Hp1.out Hp2.out
          have hs40 := HS.out
          obtain ⟨u1, u2, kk1⟩ := R1.key
          obtain ⟨v1, v2, kk2⟩ := R2.key
          have d1 := Blk.cell kk1 0
          have d2 := Blk.cell kk2 0
          simp only [List.getElem?_cons_zero] at d1 d2
          obtain ⟨B1, t1⟩ := x1
          obtain ⟨B2, t2⟩ := x2
          unfold ptr
          dsimp only at R1 R2 hsm d1 d2 ⊢
          obtain ⟨p1, hp1⟩ : ∃ p1, t1.cnt = p1 := ⟨_, rfl⟩
          obtain ⟨p2, hp2⟩ : ∃ p2, t2.cnt = p2 := ⟨_, rfl⟩
          obtain ⟨c, hc⟩ : ∃ c, p1 + p2 = c := ⟨_, rfl⟩
          rw [hp1] at d1 hsm
          rw [hp2] at d2 hsm
          have e1 : (p1 : Int) + (p2 : Int) = (c : Int) := by omega
          have e2 : IntKind.i64.wrap (c : Int) = (c : Int) := IntWalk.i64_in _ (by omega)
          have e3 : IntKind.i64.wrap ((p1 : Int) + (p2 : Int)) = (c : Int) := by rw [e1, e2]
          have z1 := World.block_lt_of_cell? w2 _ d1
          have z2 := World.block_lt_of_cell? w2 _ d2
          dsimp only at z1 z2
          have hRj : ∀ Y, Blk Y w2.heap.size 50 [.int .i64 (c : Int), .int .i64 0, .int .i64 ((k : Int) + 1), .pointer (some ⟨B1, 0, none⟩), .pointer (some ⟨B2, 0, none⟩)] → NK 50 w2 Y → Rep 50 Y w2.heap.size (.join c (k + 1) t1 t2) :=
            fun Y hY hn => ⟨B1, B2, by have : ((k + 1 : Nat) : Int) = (k : Int) + 1 := by omega
                                       rw [this]; exact hY, R1.nk hn, R2.nk hn⟩
          have HC : Hid (t1.cnt + t2.cnt = c) := Lib.hid (by rw [hp1, hp2]; exact hc)
          have HB1 := Lib.hid hB1
          have HB2 := Lib.hid hB2
          have HRJ := Lib.hid hRj
          have HA2 := Lib.hid hA2
          clear hp1 hp2 hc hsm hs40 kk1 kk2 N1 N2 R1 R2 hA hA1 hB1 hB2 hRj q1 hbox hmk
          go_region_with (go_at_call 39; refine (hpush_p (n := n) (l := l2) (B := w2.heap.size) (t := .join c (k + 1) t1 t2) (HA2.out.later (by repeat' (first | with_reducible exact Below.refl _ _ | with_reducible refine Below.drew ?_ | with_reducible refine Below.alloc ?_ (by first | omega | (simp <;> omega)) _))) HH2.out (HRJ.out _ (Blk.later (Blk.new w2 50 #[.int .i64 (c : Int), .int .i64 0, .int .i64 ((k : Int) + 1), .pointer (some ⟨B1, 0, none⟩), .pointer (some ⟨B2, 0, none⟩)]) (by repeat' (first | with_reducible exact Below.refl _ _ | with_reducible refine Below.drew ?_ | with_reducible refine Below.alloc ?_ (by first | omega | (simp <;> omega)) _))) (NK.of_below (by repeat' (first | with_reducible exact Below.refl _ _ | with_reducible refine Below.drew ?_ | with_reducible refine Below.alloc ?_ (by first | omega | (simp <;> omega)) _)))) (by omega)).mono ?_; rintro e w3 ⟨rfl, g', cap', l', y1, y2, y3, y4, y5⟩)
          all_goals go_wp2
          all_goals
            go_roundw
            case rel =>
              have hkl : k + 2 ≤ (leaves 0 ns).length := by have := HFK.out; have := HN.out; omega
              have hpp := pick_two (leaves_told ns 0) hkl HPERM.out Hp1.out Hp2.out Hm1.out Hm2.out
              dsimp only at hpp
              rw [HC.out] at hpp
              refine ⟨k + 1, by go_num, Lib.hid hkl, ?_⟩
              have b1 := HB1.out.below hB (fun k hk hS => by omega) hsz
              have b2 := HB2.out.below b1 (fun k hk hS => by omega) (by have := HB1.out.size; omega)
              have b3 : w.heap.size ≤ w2.heap.size := b2.size
              have b4 := y5.below (b2.alloc b3 _).drew (fun k hk hS => by omega) (by simp; omega)
              have e4 := y1.len
              rw [← e4] at y1 y3
              refine ⟨g', cap', l', y1, y3, (push_perm y2 (List.Perm.refl _)).trans hpp, ?_, b4⟩
              simp at y4
              omega
            case measure => simp [intOf]; omega
        · obtain ⟨q, rfl, hag, hsy, hhe, hdl⟩ := last_one H1.out hl HK.out hperm hlt
          have HDL := Lib.hid hdl
          rw [hdl]
          clear hdl hperm hfk hlt hP hll
          obtain ⟨q1, q2, q3, q4, q5, q6⟩ := hA.at (i := 0) (x := q) rfl
          rw [Nat.add_zero] at q2
          unfold ptr at q2
          have hR := hA.reps q (by simp)
          have hcap := hA.hcap
          have hgl := World.block_lt_of_cell? wr _ q2
          have hHl := World.block_lt_of_cell? wr _ hbox
          dsimp only at hgl hHl
          simp only [List.length_singleton] at hbox
          clear q1 q3 q4 q5 q6
          go_wp2_with (go_at_call 40; (with_reducible refine (len_p _ _ _ _).mono ?_); rintro e w2 ⟨rfl, hw2⟩; have hw3 := hw2.symm; subst hw3)
          obtain ⟨W1, hW1⟩ : ∃ W1, ((wr.alloc (.cells (madeCells #[.int .i64 0] ns.length) 3)).alloc (.cells #[.slice (some ⟨wr.heap.size, 0, none⟩) ns.length ns.length] 22)).alloc (.cells #[.func (.func 42) #[] #[.pointer (some ⟨wr.heap.size + 1, 0, none⟩), .pointer (some ⟨wr.heap.size + 1 + 1, 0, none⟩)]] 53) = W1 := ⟨_, rfl⟩
          have BW : Below wr.heap.size wr W1 := by
            rw [← hW1]
            exact (((Below.refl _ _).alloc (Nat.le_refl _) _).alloc (by simp) _).alloc (by simp; omega) _
          have G1 : Arr W1 wr.heap.size 3 (ints (List.replicate ns.length 0)) := by
            rw [← hW1]
            have := Arr.made wr ns.length
            have e : ints (List.replicate ns.length 0) = List.replicate ns.length 0 := by simp [ints]
            rw [e]
            exact (Blk.alloc this _).alloc _
          have G2 : W1.cell? ⟨wr.heap.size + 1, 0, none⟩ = some (.slice (some ⟨wr.heap.size, 0, none⟩) ns.length ns.length) := by
            rw [← hW1]
            clear hW1
            simp [go_sem]
          have G3 : W1.cell? ⟨wr.heap.size + 1 + 1, 0, none⟩ = some (.func (.func 42) #[] #[.pointer (some ⟨wr.heap.size + 1, 0, none⟩), .pointer (some ⟨wr.heap.size + 1 + 1, 0, none⟩)]) := by
            rw [← hW1]
            clear hW1
            simp [go_sem]
          have hbox1 := cell_keep BW hbox
          have q21 := cell_keep BW q2
          have hR1 := hR.nk (NK.of_below BW)
          have S1 : wr.heap.size + 1 + 1 < W1.heap.size := by rw [← hW1]; simp
          rw [hW1]
          clear hW1 hmk hbox q2 hR hA
          have HB0 := Lib.hid hB
          have HBW := Lib.hid BW
          clear hB BW
          have qw := fun W x1 x2 x3 x4 => walk_p (wr.heap.size + 1) (wr.heap.size + 1 + 1) wr.heap.size ns.length (by omega) (by omega) (by omega) q.2 q.1 0 (List.replicate ns.length 0) W hag hsy (by simp) (by omega) x1 x2 x3 x4
          go_region_with (go_at_call 42; refine (qw _ (hR1.nk (NK.of_below (by repeat' (first | with_reducible exact Below.refl _ _ | with_reducible refine Below.drew ?_ | with_reducible refine Below.alloc ?_ (by first | omega | (simp <;> omega)) _)))) (by simpa [go_sem] using G2) (by simpa [go_sem] using G3) (Blk.later G1 (by repeat' (first | with_reducible exact Below.refl _ _ | with_reducible refine Below.drew ?_ | with_reducible refine Below.alloc ?_ (by first | omega | (simp <;> omega)) _)))).mono ?_; rintro e w3 ⟨rfl, y1, y2⟩)
          all_goals
            have G4 : w3.cell? ⟨wr.heap.size + 1, 0, none⟩ = _ := y2.cell (by simp) (by simpa [go_sem] using G2)
          all_goals go_wp2
          all_goals go_light
          all_goals
            have hsz3 := hsz
            refine bodyPost_ret (v := .slice (some ⟨wr.heap.size, 0, none⟩) ns.length ns.length) (by simp [results, Try.results29, go_sem, *]) rfl ⟨wr.heap.size, ?_, ?_, hsz3, ?_⟩
            · rw [HDL.out, wlk_length, List.length_replicate]
            · rw [HDL.out]
              exact y1
            · exact y2.below ((HB0.out.trans (HBW.out.mono hsz3)).drew) (fun k hk hS => by omega) (by have := HBW.out.size; simp; omega)
end Go.Proofs.Ytmfgkimbehkdeaa
