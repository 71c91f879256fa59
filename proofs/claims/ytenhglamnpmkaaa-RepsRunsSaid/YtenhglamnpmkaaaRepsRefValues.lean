/-
  The reference's Values, walked.
-/
import Derived.Test.YtenhglamnpmkaaaRows
import Derived.Test.YtenhglamnpmkaaaRepsRefRun
import Derived.Test.YtenhglamnpmkaaaRepsRun
import Derived.WalkMore
import Derived.Test.YtenhglamnpmkaaaCommon
import Derived.Deep.Light
import Derived.Shelf.Abstract
import Derived.Shelf.RegionOpen
import Derived.OwnWalkIn
import Derived.TacticsInMore
import Derived.LoopNIn
import Derived.LoopIn
namespace Go.Proofs.Ytenhglamnpmkaaa
open Go.RowKit
set_option linter.unusedSimpArgs false
set_option linter.unusedVariables false
open Go.Shelf
attribute [local go_sem] eq23 idx23_0 idx23_1 idx23_2 Oper.semAt_some

theorem own_any {a : Option Addr} {n m c d g : Nat} (h : (Value.slice a n c).ownBlock = some g) : (Value.slice a m d).ownBlock = some g := by
  cases a with
  | none => simp [Value.ownBlock] at h
  | some x => simpa [Value.ownBlock] using h
theorem rval_ask {a b c d l : Int} (h : (Rval a b c d l).2 = 0) : (Rask a b c (Rval a b c d l).1 l).2.2 = 0 := by
  by_cases hc : chkL true [a, b, c] = 0
  · by_cases h2 : d < 1 ∨ 2147483648 < d ∨ l < 0
    · rw [rval_range hc h2] at h
      simp at h
    · obtain ⟨v, h3, _, _, _, h5, h6⟩ := rval_ok hc (show 1 ≤ d by omega) (show d ≤ 2147483648 by omega) (show 0 ≤ l by omega)
      rw [h3, h6]
      exact h5
  · rw [rval_chk hc] at h
    exact absurd h hc
set_option maxRecDepth 100000 in
set_option maxHeartbeats 4000000 in
theorem rvals_1 (a b c : Int) (pd pl : Option Addr) (ds ls : List Int) (cd cl : Nat) (w : World) (hd : Row .i64 w pd ds) (hl : Row .i64 w pl ls) (hc : chkL true [a, b, c] = 0) (hn : ds.length ≤ 100000) (he : ls.length = ds.length) :
    Calls Try.prog 37 #[.agg #[.int .i64 a, .int .i64 b, .int .i64 c], .slice pd ds.length cd, .slice pl ls.length cl] w (RunPost2 (rput [] (rvals a b c ds ls)) w) := by
  have hn1 : decide ((100000 : Int) < (ds.length : Int)) = false := by simp; omega
  have hn2 : ((ds.length : Int) != (ls.length : Int)) = false := by rw [he]; simp
  have HE := Lib.hid he
  clear he
  go_enter Try.func37, Try.ntmps37
  go_wp2_with ((go_at_call 20; refine (check_r _ _ _ _).mono ?_; rintro e w1 ⟨rfl, hb⟩; have hsz := hb.size; (try simp at hsz); (first | (have hbl := blater2 HA (by first | exact Nat.le_refl _ | (simp; done) | (simp; omega)) hb; obtain ⟨hcc, hff, HA, hne, hne'⟩ := hbl) | (obtain ⟨hcc, hff, HA, hne, hne'⟩ := blater1 hb)); (try simp only [World.size_alloc, World.size_setCell] at HA)))
  have x0 : Hist w1 w.heap.size (a, b, c) := ⟨by simp [go_sem, *], by simp [go_sem, *], by simp [go_sem, *], fun j => by simp [go_sem, *]⟩
  have x1 : Hist w1 (w.heap.size + 1) (0, 0, 0) := ⟨by simp [go_sem, *], by simp [go_sem, *], by simp [go_sem, *], fun j => by simp [go_sem, *]⟩
  have B1 : Below w.heap.size w w1 := by repeat' (first | exact Below.refl _ _ | refine Below.drew ?_ | refine below_drewN ?_ _ | refine Below.alloc ?_ (by first | omega | (simp <;> omega)) _ | refine Below.setCell ?_ (by first | omega | (simp <;> omega)) _ | refine Below.trans ?_ (Below.mono (by assumption) (by first | omega | (simp <;> omega))))
  obtain ⟨bH, hbH⟩ : ∃ x, w.heap.size = x := ⟨_, rfl⟩
  obtain ⟨bN, hbN⟩ : ∃ x, bH + 1 = x := ⟨_, rfl⟩
  have hsz1 : bH + 2 ≤ w1.heap.size := by omega
  rw [hbH] at x0 x1 B1 ⊢
  rw [hbN] at x1 ⊢
  obtain ⟨i3, hi3, hz0, hz1, hz2⟩ := info_parts info3
  have HBH := Lib.hid hbH
  have HX0 := Lib.hid x0
  have HX1 := Lib.hid x1
  have HXY := Lib.hid (And.intro hsz1 B1)
  have HZ := Lib.hid hbN
  clear hn1 hn2 hcc hff HA hne hne' hsz hb x0 x1 hsz1 B1 hbN hbH
  go_loopw [10, 11] (fun v8 v9 wr => ∃ (k : Nat) (ad : Option Addr) (cap : Nat) (vs : List Int) (x y z : Int), k ≤ ds.length ∧ v9 = .int .i64 (k : Int) ∧ v8 = .slice ad k cap ∧ Hid (vs.length = k) ∧ wr.ownsRow (bH + 2) 3 1 (.slice ad k cap) k (vs.map (Value.int .i64)) ∧ Hist wr bH (x, y, z) ∧ Hist wr bN (0, 0, 0) ∧ Below bH w wr ∧ bH + 2 ≤ wr.heap.size ∧ Hid (rput vs (rvals x y z (ds.drop k) (ls.drop k)) = rput [] (rvals a b c ds ls))) (fun _ v _ => ds.length - (intOf v).toNat)
  case atStart => exact ⟨0, none, 0, [], a, b, c, by omega, rfl, rfl, rfl, World.ownsRow_nil _ _ _ _, HX0.out, HX1.out, HXY.out.2, HXY.out.1, rfl⟩
  case round =>
    clear HX0 HX1 HXY
    obtain ⟨k, ad, cap, vs, x, y, z, hk, rfl, rfl, HV, hown, hh, hN, hb, hsz, HR⟩ := hrel
    have HO := Lib.hid hown
    have HH := Lib.hid hh
    have HN := Lib.hid hN
    obtain ⟨h1, h2, h3, h4⟩ := hh
    obtain ⟨n1, n2, n3, n4⟩ := hN
    dsimp only at h1 h2 h3 n1 n2 n3
    have hbN := HZ.out
    have hb1 : ¬ bH = bN := by omega
    have hb2 : ¬ bN = bH := by omega
    have hb3 : bH < wr.heap.size := by omega
    have hb4 : bN < wr.heap.size := by omega
    have hbn2 : bN < bH + 2 := by omega
    have hbn3 : bH ≤ bN := by omega
    clear hown hbN
    by_cases hlt : k < ds.length
    · have hlt2 : k < ls.length := by have := HE.out; omega
      obtain ⟨b1, o1, rfl, hb5, hc1⟩ := (hd.later (by rw [HBH.out]; exact hb)).at hlt
      obtain ⟨b2, o2, rfl, hb6', hc2⟩ := (hl.later (by rw [HBH.out]; exact hb)).at hlt2
      have c1 := hc1 k hlt
      have c2 := hc2 k hlt2
      have hr := HR.out
      obtain ⟨d, hdd⟩ : ∃ d, ds.getD k 0 = d := ⟨_, rfl⟩
      obtain ⟨li, hll⟩ : ∃ l, ls.getD k 0 = l := ⟨_, rfl⟩
      rw [hdd] at c1
      rw [hll] at c2
      have qD := fun w => value_r x y z d li w
      rw [drop_cons hlt hdd, drop_cons hlt2 hll] at hr
      have he1 := fun h => rput_err1 vs (a := x) (b := y) (c := z) (d := d) (l := li) (ds := ds.drop (k + 1)) (ls := ls.drop (k + 1)) h
      have he2 := fun h h2 => rput_step vs (a := x) (b := y) (c := z) (d := d) (l := li) (ds := ds.drop (k + 1)) (ls := ls.drop (k + 1)) h h2
      have he0 := rval_ask (a := x) (b := y) (c := z) (d := d) (l := li)
      rw [hr] at he1 he2
      obtain ⟨⟨rd, re⟩, hRv⟩ : ∃ R, Rval x y z d li = R := ⟨_, rfl⟩
      rw [hRv] at qD he1 he2 he0
      dsimp only at qD he1 he2 he0
      have qX := fun w => next_r x y z rd li w
      obtain ⟨R, hR⟩ : ∃ R, Rask x y z rd li = R := ⟨_, rfl⟩
      rw [hR] at qX he2 he0
      obtain ⟨r0, ⟨x', y', z'⟩, r1⟩ := R
      dsimp only at qX he2 he0
      have HE1 := Lib.hid he1
      have HE2 := Lib.hid he2
      have HE0 := Lib.hid he0
      have i0 : (0 : Int) ≤ (k : Int) := by omega
      have i1 : (k : Int) < (ds.length : Int) := by omega
      have i2 : (k : Int) < (ls.length : Int) := by omega
      clear hc1 hc2 hdd hll hr hR hRv he1 he2 he0 HR
      by_cases he : re = 0
      · subst he
        go_wp2
        go_region_held3 (fun w' => w'.cell? ⟨bH, 0, none⟩ = some (.int .i64 x) ∧ w'.cell? ⟨bH, 1, none⟩ = some (.int .i64 y) ∧ w'.cell? ⟨bH, 2, none⟩ = some (.int .i64 z) ∧ w'.cell? ⟨b1, o1 + k, none⟩ = some (.int .i64 d) ∧ w'.cell? ⟨b2, o2 + k, none⟩ = some (.int .i64 li)) (first | (simp [go_sem, *]; done) | go_keep) ((go_at_call 24; refine (qD _).mono ?_; rintro e w3 ⟨rfl, hb6⟩; have hs6 := hb6.size; (try simp at hs6); have y0 := (hb6.cell (p := ⟨bH, 0, none⟩) (by simp; omega)).trans (show _ = some (.int .i64 x) by simp [go_sem, *]); have y1 := (hb6.cell (p := ⟨bH, 1, none⟩) (by simp; omega)).trans (show _ = some (.int .i64 y) by simp [go_sem, *]); have y2 := (hb6.cell (p := ⟨bH, 2, none⟩) (by simp; omega)).trans (show _ = some (.int .i64 z) by simp [go_sem, *]); have y3 := (hb6.cell (p := ⟨b1, o1 + k, none⟩) (by simp; omega)).trans (show _ = some (.int .i64 d) by simp [go_sem, *]); have y4 := (hb6.cell (p := ⟨b2, o2 + k, none⟩) (by simp; omega)).trans (show _ = some (.int .i64 li) by simp [go_sem, *]); have y5 : ∀ j, w3.frozen? ⟨bH, j, none⟩ = false := (fun j => (hb6.frozen (p := ⟨bH, j, none⟩) (by simp; omega)).trans (by simp [go_sem, *]))))
        have bw3 : Below wr.heap.size wr w3 := by repeat' (first | exact Below.refl _ _ | refine Below.drew ?_ | refine below_drewN ?_ _ | refine Below.alloc ?_ (by first | omega | (simp <;> omega)) _ | refine Below.setCell ?_ (by first | omega | (simp <;> omega)) _ | refine Below.trans ?_ (Below.mono (by assumption) (by first | omega | (simp <;> omega))))
        have hN3 := HN.out.later bw3
        have hO3 := ownsRow_later HO.out bw3
        have hB3 : Below bH w w3 := hb.trans (bw3.mono (by omega))
        have hsz3 : wr.heap.size ≤ w3.heap.size := bw3.size
        have HH3 := Lib.hid (show Hist w3 bH (x, y, z) from ⟨y0, y1, y2, y5⟩)
        have HN3 := Lib.hid hN3
        have HO3 := Lib.hid hO3
        have y50 := y5 0
        have y51 := y5 1
        have y52 := y5 2
        clear h1 h2 h3 h4 n1 n2 n3 n4 HH HN HO c1 c2 hb6 bw3 hN3 hO3 qD
        go_wp2
        go_cut [59] (fun s59 wx => Hist wx bH (x', y', z') ∧ But (fun k => k = bH) w3 wx)
        case first =>
          go_region_with (go_at_call 18; refine (qX _).mono ?_; rintro e w4 ⟨rfl, hb7⟩; have hs7 := hb7.size; (try simp at hs7); have t0 := (hb7.cell (p := ⟨bH, 0, none⟩) (by simp; omega)).trans (show _ = some (.int .i64 x) by simp [go_sem, *]); have t1 := (hb7.cell (p := ⟨bH, 1, none⟩) (by simp; omega)).trans (show _ = some (.int .i64 y) by simp [go_sem, *]); have t2 := (hb7.cell (p := ⟨bH, 2, none⟩) (by simp; omega)).trans (show _ = some (.int .i64 z) by simp [go_sem, *]); have t5 : ∀ j, w4.frozen? ⟨bH, j, none⟩ = false := (fun j => (hb7.frozen (p := ⟨bH, j, none⟩) (by simp; omega)).trans (by simp [go_sem, *])))
          all_goals (go_wp2_with fail; go_meet; go_light)
          all_goals (refine ⟨⟨by simp [go_sem, t0, t1, t2], by simp [go_sem, t0, t1, t2], by simp [go_sem, t0, t1, t2], fun j => by simp [go_sem, t5]⟩, ?_⟩; exact (But.of_below (by repeat' (first | exact Below.refl _ _ | refine Below.drew ?_ | refine below_drewN ?_ _ | refine Below.alloc ?_ (by first | omega | (simp <;> omega)) _ | refine Below.setCell ?_ (by first | omega | (simp <;> omega)) _ | refine Below.trans ?_ (Below.mono (by assumption) (by first | omega | (simp <;> omega)))))).trans (but_hist _ _ _ _ _))
        case rest =>
          obtain ⟨hh4, hbu⟩ := hcut
          have hO4 := Lib.hid (hbu.ownsRow HO3.out (fun k hk => by omega))
          have hN4 := Lib.hid (HN3.out.but hbu (by omega))
          have hB4 := hbu.below hB3 (fun k hk => by omega) (by omega)
          have hs4 := hbu.size
          have HH4 := Lib.hid hh4
          clear hh4 hbu HN3 HO3 HH3 hB3
          go_wp2_with (at_builtin; refine wpList_append_own_at _ rfl _ _ 38 rfl (bH + 2) 3 i3 (.int .i64 0) 1 8 Try.underlying38 hi3 hz0 hz1 hz2 rfl (by decide) (.slice ad k cap) _ _ rfl (hO4.out.alloc _) ⟨wc.heap.size, 0, none⟩ 1 1 [.int .i64 rd] rfl rfl (cell_one_new _ _ _) (one_int_o _ _) (by unfold maxLen; omega) (by omega) (by simp; omega) ?_; intro v' w5 ho5 hg5 hnil5 hat5; obtain ⟨ad', cap', rfl⟩ := own_slice_o ho5; have hb5' : Below (bH + 2) wc w5 := ((Below.refl _ wc).alloc (by omega) _).grown hg5 (by simp; omega) (own_base_o hO4.out); have HO5 := Lib.hid ho5; clear ho5 hnil5 hat5)
          go_roundw
          case rel =>
            have hg := hg5.size
            simp at hg
            refine ⟨k + 1, ad', cap', vs ++ [rd], x', y', z', by omega, by go_num, rfl, ?_, ?_, HH4.out.below hb5' (by omega), hN4.out.below hb5' (by omega), hB4.trans (hb5'.mono (by omega)), by omega, Lib.hid (HE2.out (by first | rfl | trivial) (HE0.out (by first | rfl | trivial))).symm⟩
            · have := HV.out
              exact Lib.hid (by rw [List.length_append, this]; rfl)
            · rw [List.map_append]
              exact HO5.out
          case measure => go_light; simp [intOf] <;> omega
      · have he2 : (re != 0) = true := by simpa using he
        go_wp2
        go_region_held3 (fun w' => w'.cell? ⟨bH, 0, none⟩ = some (.int .i64 x) ∧ w'.cell? ⟨bH, 1, none⟩ = some (.int .i64 y) ∧ w'.cell? ⟨bH, 2, none⟩ = some (.int .i64 z) ∧ w'.cell? ⟨b1, o1 + k, none⟩ = some (.int .i64 d) ∧ w'.cell? ⟨b2, o2 + k, none⟩ = some (.int .i64 li)) (first | (simp [go_sem, *]; done) | go_keep) ((go_at_call 24; refine (qD _).mono ?_; rintro e w3 ⟨rfl, hb6⟩; have hs6 := hb6.size; (try simp at hs6); have y0 := (hb6.cell (p := ⟨bH, 0, none⟩) (by simp; omega)).trans (show _ = some (.int .i64 x) by simp [go_sem, *]); have y1 := (hb6.cell (p := ⟨bH, 1, none⟩) (by simp; omega)).trans (show _ = some (.int .i64 y) by simp [go_sem, *]); have y2 := (hb6.cell (p := ⟨bH, 2, none⟩) (by simp; omega)).trans (show _ = some (.int .i64 z) by simp [go_sem, *]); have y3 := (hb6.cell (p := ⟨b1, o1 + k, none⟩) (by simp; omega)).trans (show _ = some (.int .i64 d) by simp [go_sem, *]); have y4 := (hb6.cell (p := ⟨b2, o2 + k, none⟩) (by simp; omega)).trans (show _ = some (.int .i64 li) by simp [go_sem, *]); have y5 : ∀ j, w3.frozen? ⟨bH, j, none⟩ = false := (fun j => (hb6.frozen (p := ⟨bH, j, none⟩) (by simp; omega)).trans (by simp [go_sem, *]))))
        have hN3 := HN.out.later (show Below wr.heap.size wr w3 by repeat' (first | exact Below.refl _ _ | refine Below.drew ?_ | refine below_drewN ?_ _ | refine Below.alloc ?_ (by first | omega | (simp <;> omega)) _ | refine Below.setCell ?_ (by first | omega | (simp <;> omega)) _ | refine Below.trans ?_ (Below.mono (by assumption) (by first | omega | (simp <;> omega)))))
        have hB3 : Below bH w w3 := hb.trans ((show Below wr.heap.size wr w3 by repeat' (first | exact Below.refl _ _ | refine Below.drew ?_ | refine below_drewN ?_ _ | refine Below.alloc ?_ (by first | omega | (simp <;> omega)) _ | refine Below.setCell ?_ (by first | omega | (simp <;> omega)) _ | refine Below.trans ?_ (Below.mono (by assumption) (by first | omega | (simp <;> omega))))).mono (by omega))
        obtain ⟨n5, n6, n7, n8⟩ := hN3
        dsimp only at n5 n6 n7
        have n80 := n8 0
        have n81 := n8 1
        have n82 := n8 2
        clear h1 h2 h3 h4 n1 n2 n3 n4 c1 c2 hb6 qD qX y0 y1 y2 y3 y4 y5
        go_wp2
        go_light
        have hr9 := HE1.out he
        rw [hr9]
        refine bodyPost_ret (v := .tuple #[.slice none 0 0, .agg #[.int .i64 0, .int .i64 0, .int .i64 0], .int .i64 re]) (by simp [results, Try.results37, go_sem, *]) rfl (runPost2_err _ ?_)
        rw [HBH.out]
        exact ((hB3.setCell (by simp; omega) _).setCell (by simp; omega) _).setCell (by simp; omega) _
    · have hkk : k = ds.length := by omega
      have hr := HR.out
      rw [hkk, List.drop_length] at hr
      have hr2 : rput [] (rvals a b c ds ls) = (vs, (x, y, z), 0) := by rw [← hr, rput_nil]
      have HR2 := Lib.hid hr2
      have HKK := Lib.hid hkk
      clear hr hr2 hkk HR
      go_wp2
      go_region
      go_wp2
      go_light
      rw [HR2.out]
      refine bodyPost_ret (v := .tuple #[.slice ad k cap, .agg #[.int .i64 x, .int .i64 y, .int .i64 z], .int .i64 0]) (by simp [results, Try.results37, go_sem, *]) rfl ⟨ad, cap, by have := HV.out; simp [this], fun g hg => by have := own_base_o HO.out g (own_any hg); have := HBH.out; omega, ?_, ?_⟩
      · exact Row.later (Row.of_own_slice (k := .i64) (ownsRow_setCell_below (ownsRow_setCell_below (ownsRow_setCell_below HO.out (by simp; omega) _) (by simp; omega) _) (by simp; omega) _)) (Below.refl _ _).drew
      · rw [HBH.out]
        repeat' (first | exact Below.refl _ _ | refine Below.drew ?_ | refine below_drewN ?_ _ | refine Below.alloc ?_ (by first | omega | (simp <;> omega)) _ | refine Below.setCell ?_ (by first | omega | (simp <;> omega)) _ | refine Below.trans ?_ (Below.mono (by assumption) (by first | omega | (simp <;> omega))))

set_option maxHeartbeats 1000000 in
theorem rvals_e1 (a b c : Int) (pd pl : Option Addr) (ds ls : List Int) (cd cl : Nat) (w : World) (hc : (chkL true [a, b, c] != 0) = true) :
    Calls Try.prog 37 #[.agg #[.int .i64 a, .int .i64 b, .int .i64 c], .slice pd ds.length cd, .slice pl ls.length cl] w (RunPost2 ([], (0, 0, 0), chkL true [a, b, c]) w) := by
  have hc2 : (chkL true [a, b, c] == 0) = false := by simpa using hc
  go_enter Try.func37, Try.ntmps37
  go_wp2_with ((go_at_call 20; refine (check_r _ _ _ _).mono ?_; rintro e w1 ⟨rfl, hb⟩; have hsz := hb.size; (try simp at hsz); (first | (have hbl := blater2 HA (by first | exact Nat.le_refl _ | (simp; done) | (simp; omega)) hb; obtain ⟨hcc, hff, HA, hne, hne'⟩ := hbl) | (obtain ⟨hcc, hff, HA, hne, hne'⟩ := blater1 hb)); (try simp only [World.size_alloc, World.size_setCell] at HA)))
  repeat' (first | (go_region <;> go_wp2_with ((go_at_call 20; refine (check_r _ _ _ _).mono ?_; rintro e w1 ⟨rfl, hb⟩; have hsz := hb.size; (try simp at hsz); (first | (have hbl := blater2 HA (by first | exact Nat.le_refl _ | (simp; done) | (simp; omega)) hb; obtain ⟨hcc, hff, HA, hne, hne'⟩ := hbl) | (obtain ⟨hcc, hff, HA, hne, hne'⟩ := blater1 hb)); (try simp only [World.size_alloc, World.size_setCell] at HA)))))
  all_goals go_light
  all_goals (refine bodyPost_ret (v := .tuple #[.slice none 0 0, .agg #[.int .i64 0, .int .i64 0, .int .i64 0], .int .i64 (chkL true [a, b, c])]) (by simp [results, Try.results37, go_sem, *]) rfl (runPost2_err _ ?_); repeat' (first | exact Below.refl _ _ | refine Below.drew ?_ | refine below_drewN ?_ _ | refine Below.alloc ?_ (by first | omega | (simp <;> omega)) _ | refine Below.setCell ?_ (by first | omega | (simp <;> omega)) _ | refine Below.trans ?_ (Below.mono (by assumption) (by first | omega | (simp <;> omega)))))

set_option maxHeartbeats 1000000 in
theorem rvals_e2 (a b c : Int) (pd pl : Option Addr) (ds ls : List Int) (cd cl : Nat) (w : World) (hc : chkL true [a, b, c] = 0) (hn : 100000 < ds.length) (hm : ds.length ≤ 9223372036854775807) :
    Calls Try.prog 37 #[.agg #[.int .i64 a, .int .i64 b, .int .i64 c], .slice pd ds.length cd, .slice pl ls.length cl] w (RunPost2 ([], (0, 0, 0), 6) w) := by
  have hn1 : decide ((100000 : Int) < (ds.length : Int)) = true := by simp; omega
  go_enter Try.func37, Try.ntmps37
  go_wp2_with ((go_at_call 20; refine (check_r _ _ _ _).mono ?_; rintro e w1 ⟨rfl, hb⟩; have hsz := hb.size; (try simp at hsz); (first | (have hbl := blater2 HA (by first | exact Nat.le_refl _ | (simp; done) | (simp; omega)) hb; obtain ⟨hcc, hff, HA, hne, hne'⟩ := hbl) | (obtain ⟨hcc, hff, HA, hne, hne'⟩ := blater1 hb)); (try simp only [World.size_alloc, World.size_setCell] at HA)))
  repeat' (first | (go_region <;> go_wp2_with ((go_at_call 20; refine (check_r _ _ _ _).mono ?_; rintro e w1 ⟨rfl, hb⟩; have hsz := hb.size; (try simp at hsz); (first | (have hbl := blater2 HA (by first | exact Nat.le_refl _ | (simp; done) | (simp; omega)) hb; obtain ⟨hcc, hff, HA, hne, hne'⟩ := hbl) | (obtain ⟨hcc, hff, HA, hne, hne'⟩ := blater1 hb)); (try simp only [World.size_alloc, World.size_setCell] at HA)))))
  all_goals go_light
  all_goals (refine bodyPost_ret (v := .tuple #[.slice none 0 0, .agg #[.int .i64 0, .int .i64 0, .int .i64 0], .int .i64 (6)]) (by simp [results, Try.results37, go_sem, *]) rfl (runPost2_err _ ?_); repeat' (first | exact Below.refl _ _ | refine Below.drew ?_ | refine below_drewN ?_ _ | refine Below.alloc ?_ (by first | omega | (simp <;> omega)) _ | refine Below.setCell ?_ (by first | omega | (simp <;> omega)) _ | refine Below.trans ?_ (Below.mono (by assumption) (by first | omega | (simp <;> omega)))))

set_option maxHeartbeats 1000000 in
theorem rvals_e3 (a b c : Int) (pd pl : Option Addr) (ds ls : List Int) (cd cl : Nat) (w : World) (hc : chkL true [a, b, c] = 0) (hn : ds.length ≤ 100000) (he : ls.length ≠ ds.length) :
    Calls Try.prog 37 #[.agg #[.int .i64 a, .int .i64 b, .int .i64 c], .slice pd ds.length cd, .slice pl ls.length cl] w (RunPost2 ([], (0, 0, 0), 2) w) := by
  have hn1 : decide ((100000 : Int) < (ds.length : Int)) = false := by simp; omega
  have hn2 : ((ds.length : Int) != (ls.length : Int)) = true := by simp; omega
  clear he
  go_enter Try.func37, Try.ntmps37
  go_wp2_with ((go_at_call 20; refine (check_r _ _ _ _).mono ?_; rintro e w1 ⟨rfl, hb⟩; have hsz := hb.size; (try simp at hsz); (first | (have hbl := blater2 HA (by first | exact Nat.le_refl _ | (simp; done) | (simp; omega)) hb; obtain ⟨hcc, hff, HA, hne, hne'⟩ := hbl) | (obtain ⟨hcc, hff, HA, hne, hne'⟩ := blater1 hb)); (try simp only [World.size_alloc, World.size_setCell] at HA)))
  repeat' (first | (go_region <;> go_wp2_with ((go_at_call 20; refine (check_r _ _ _ _).mono ?_; rintro e w1 ⟨rfl, hb⟩; have hsz := hb.size; (try simp at hsz); (first | (have hbl := blater2 HA (by first | exact Nat.le_refl _ | (simp; done) | (simp; omega)) hb; obtain ⟨hcc, hff, HA, hne, hne'⟩ := hbl) | (obtain ⟨hcc, hff, HA, hne, hne'⟩ := blater1 hb)); (try simp only [World.size_alloc, World.size_setCell] at HA)))))
  all_goals go_light
  all_goals (refine bodyPost_ret (v := .tuple #[.slice none 0 0, .agg #[.int .i64 0, .int .i64 0, .int .i64 0], .int .i64 (2)]) (by simp [results, Try.results37, go_sem, *]) rfl (runPost2_err _ ?_); repeat' (first | exact Below.refl _ _ | refine Below.drew ?_ | refine below_drewN ?_ _ | refine Below.alloc ?_ (by first | omega | (simp <;> omega)) _ | refine Below.setCell ?_ (by first | omega | (simp <;> omega)) _ | refine Below.trans ?_ (Below.mono (by assumption) (by first | omega | (simp <;> omega)))))

theorem rvals_p (a b c : Int) (pd pl : Option Addr) (ds ls : List Int) (cd cl : Nat) (w : World) (hd : Row .i64 w pd ds) (hl : Row .i64 w pl ls) (hm : ds.length ≤ 9223372036854775807) :
    Calls Try.prog 37 #[.agg #[.int .i64 a, .int .i64 b, .int .i64 c], .slice pd ds.length cd, .slice pl ls.length cl] w (RunPost2 (Rvalues a b c ds ls) w) := by
  unfold Rvalues
  split
  · rename_i h; exact rvals_e1 a b c pd pl ds ls cd cl w (by simpa using h)
  · rename_i h
    have hc : chkL true [a, b, c] = 0 := by simpa using h
    split
    · rename_i h2; exact rvals_e2 a b c pd pl ds ls cd cl w hc h2 hm
    · rename_i h2
      split
      · rename_i h3; exact rvals_e3 a b c pd pl ds ls cd cl w hc (by omega) h3
      · rename_i h3; exact rvals_1 a b c pd pl ds ls cd cl w hd hl hc (by omega) (by simpa using h3)
end Go.Proofs.Ytenhglamnpmkaaa
