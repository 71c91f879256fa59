/-
  Values of package reps, walked: a run of distances.
-/
import Derived.Test.YtenhglamnpmkaaaRows
import Derived.Test.YtenhglamnpmkaaaRepsRun
import Derived.Test.YtenhglamnpmkaaaOwnMore
import Derived.Test.YtenhglamnpmkaaaRepsPlain3
import Derived.Test.YtenhglamnpmkaaaSlice
import Derived.Test.YtenhglamnpmkaaaCommon
import Derived.Deep.Light
import Derived.Deep.RegionHeld3
import Derived.Deep.AppendLies
import Derived.Deep.DeepCutAuto
namespace Go.Proofs.Ytenhglamnpmkaaa
open Go.RowKit
set_option linter.unusedSimpArgs false
set_option linter.unusedVariables false
attribute [local go_sem] eq23 idx23_0 idx23_1 idx23_2 tup

set_option maxHeartbeats 1000000 in
theorem values2_p1 (a b c : Int) (pd pl : Option Addr) (ds ls : List Int) (cd cl : Nat) (w : World) (hd : Row .i64 w pd ds) (hl : Row .i64 w pl ls) (hc : chkL true [a, b, c] = 0) (hn : ds.length ≤ 100000) (he : ls.length = ds.length) :
    Calls Try.prog 31 #[.agg #[.int .i64 a, .int .i64 b, .int .i64 c], .slice pd ds.length cd, .slice pl ls.length cl] w (RunPost2 (rput [] (rvals a b c ds ls)) w) := by
  have hn1 : decide ((100000 : Int) < (ds.length : Int)) = false := by simp; omega
  have hn2 : ((ls.length : Int) != (ds.length : Int)) = false := by rw [he]; simp
  have HE := Lib.hid he
  clear he
  go_enter Try.func31, Try.ntmps31
  go_wp2_with (first | (go_at_call 19; refine (check_p _ _ _ _).mono ?_; rintro e w1 ⟨rfl, hb⟩; have hsz := hb.size; (try simp at hsz); (first | (have hbl := blater2 HA (by first | exact Nat.le_refl _ | (simp; done) | (simp; omega)) hb; obtain ⟨hcc, hff, HA, hne, hne'⟩ := hbl) | (obtain ⟨hcc, hff, HA, hne, hne'⟩ := blater1 hb)); (try simp only [World.size_alloc, World.size_setCell] at HA)) | (go_at_call 23; refine (value_p _ _ _ _ _ _).mono ?_; rintro e w1 ⟨rfl, hb⟩; have hsz := hb.size; (try simp at hsz); (first | (have hbl := blater2 HA (by first | exact Nat.le_refl _ | (simp; done) | (simp; omega)) hb; obtain ⟨hcc, hff, HA, hne, hne'⟩ := hbl) | (obtain ⟨hcc, hff, HA, hne, hne'⟩ := blater1 hb)); (try simp only [World.size_alloc, World.size_setCell] at HA)) | (go_at_call 55; refine (asked_p _ _ _ _ _ _).mono ?_; rintro e w1 ⟨rfl, hb⟩; have hsz := hb.size; (try simp at hsz); (first | (have hbl := blater2 HA (by first | exact Nat.le_refl _ | (simp; done) | (simp; omega)) hb; obtain ⟨hcc, hff, HA, hne, hne'⟩ := hbl) | (obtain ⟨hcc, hff, HA, hne, hne'⟩ := blater1 hb)); (try simp only [World.size_alloc, World.size_setCell] at HA)))
  repeat' (first | (go_region <;> go_wp2_with (first | (go_at_call 19; refine (check_p _ _ _ _).mono ?_; rintro e w1 ⟨rfl, hb⟩; have hsz := hb.size; (try simp at hsz); (first | (have hbl := blater2 HA (by first | exact Nat.le_refl _ | (simp; done) | (simp; omega)) hb; obtain ⟨hcc, hff, HA, hne, hne'⟩ := hbl) | (obtain ⟨hcc, hff, HA, hne, hne'⟩ := blater1 hb)); (try simp only [World.size_alloc, World.size_setCell] at HA)) | (go_at_call 23; refine (value_p _ _ _ _ _ _).mono ?_; rintro e w1 ⟨rfl, hb⟩; have hsz := hb.size; (try simp at hsz); (first | (have hbl := blater2 HA (by first | exact Nat.le_refl _ | (simp; done) | (simp; omega)) hb; obtain ⟨hcc, hff, HA, hne, hne'⟩ := hbl) | (obtain ⟨hcc, hff, HA, hne, hne'⟩ := blater1 hb)); (try simp only [World.size_alloc, World.size_setCell] at HA)) | (go_at_call 55; refine (asked_p _ _ _ _ _ _).mono ?_; rintro e w1 ⟨rfl, hb⟩; have hsz := hb.size; (try simp at hsz); (first | (have hbl := blater2 HA (by first | exact Nat.le_refl _ | (simp; done) | (simp; omega)) hb; obtain ⟨hcc, hff, HA, hne, hne'⟩ := hbl) | (obtain ⟨hcc, hff, HA, hne, hne'⟩ := blater1 hb)); (try simp only [World.size_alloc, World.size_setCell] at HA)))))
  obtain ⟨W0, hW0⟩ : ∃ W0 : World, W0 = ((w1.setCell ⟨w.heap.size + 1, 0, none⟩ (.int .i64 a)).setCell ⟨w.heap.size + 1, 1, none⟩ (.int .i64 b)).setCell ⟨w.heap.size + 1, 2, none⟩ (.int .i64 c) := ⟨_, rfl⟩
  have B0 : Below w.heap.size w W0 := by
    rw [hW0]
    repeat' (first | exact Below.refl _ _ | refine Below.drew ?_ | refine below_drewN ?_ _ | refine Below.alloc ?_ (by first | omega | (simp <;> omega)) _ | refine Below.setCell ?_ (by first | omega | (simp <;> omega)) _ | refine Below.trans ?_ (Below.mono (by assumption) (by first | omega | (simp <;> omega))))
  have S0 : w.heap.size + 2 ≤ W0.heap.size := by rw [hW0]; simp; omega
  have x0 : W0.cell? ⟨w.heap.size + 1, 0, none⟩ = some (.int .i64 a) := by rw [hW0]; simp [go_sem, *]
  have x1 : W0.cell? ⟨w.heap.size + 1, 1, none⟩ = some (.int .i64 b) := by rw [hW0]; simp [go_sem, *]
  have x2 : W0.cell? ⟨w.heap.size + 1, 2, none⟩ = some (.int .i64 c) := by rw [hW0]; simp [go_sem, *]
  have f0 : ∀ j, W0.frozen? ⟨w.heap.size + 1, j, none⟩ = false := by intro j; rw [hW0]; simp [go_sem, *]
  rw [← hW0]
  clear hW0 hcc hff HA hne hne' hsz hb
  have hd0 := hd.later B0
  have hl0 := hl.later B0
  clear hd0 hl0 hn2 hn1
  go_loopw [6, 35] (fun v i wr => ∃ (k : Nat) (vs : List Int) (x y z : Int), k ≤ ds.length ∧ i = .int .i64 k ∧ wr.ownsRow (w.heap.size + 2) 3 1 v vs.length (vs.map (Value.int .i64)) ∧ Hid (vs.length = k) ∧
      wr.cell? ⟨w.heap.size + 1, 0, none⟩ = some (.int .i64 x) ∧ wr.cell? ⟨w.heap.size + 1, 1, none⟩ = some (.int .i64 y) ∧ wr.cell? ⟨w.heap.size + 1, 2, none⟩ = some (.int .i64 z) ∧ (∀ j, wr.frozen? ⟨w.heap.size + 1, j, none⟩ = false) ∧
      Below w.heap.size w wr ∧ w.heap.size + 2 ≤ wr.heap.size ∧ Hid (rput vs (rvals x y z (ds.drop k) (ls.drop k)) = rput [] (rvals a b c ds ls))) (fun _ i _ => ds.length - (intOf i).toNat)
  case atStart => exact ⟨0, [], a, b, c, by omega, rfl, World.ownsRow_nil _ _ _ _, rfl, x0, x1, x2, f0, B0, S0, rfl⟩
  case round =>
    clear x0 x1 x2 f0 B0 S0
    obtain ⟨k, vs, x, y, z, hk, rfl, hown, HV, x0, x1, x2, f0, B0, S0, HR⟩ := hrel
    by_cases hlt : k < ds.length
    · have hlt2 : k < ls.length := by have := HE.out; omega
      obtain ⟨bd, od, rfl, hbd, hcd⟩ := (hd.later B0).at hlt
      obtain ⟨bl, ol, rfl, hbl, hcl⟩ := (hl.later B0).at hlt2
      have cd1 := hcd k hlt
      have cl1 := hcl k hlt2
      obtain ⟨d, hdd⟩ : ∃ d, ds.getD k 0 = d := ⟨_, rfl⟩
      obtain ⟨l, hll⟩ : ∃ l, ls.getD k 0 = l := ⟨_, rfl⟩
      rw [hdd] at cd1
      rw [hll] at cl1
      have HD := Lib.hid hdd
      have HL := Lib.hid hll
      clear hcd hcl hdd hll
      have i0 : (0 : Int) ≤ (k : Int) := by omega
      have i1 : (k : Int) < (ds.length : Int) := by omega
      have i2 : (k : Int) < (ls.length : Int) := by omega
      have HA : ∀ n, n < w.heap.size + 2 → n < wr.heap.size := fun n h => by omega
      go_wp2_with fail
      ((first | (refine wp_region_later2 HA (by first | exact Nat.le_refl _ | (simp; done) | (simp; omega)) (by kernel_rfl) (by kernel_rfl) ?_; intro hLC) | (refine wp_region_later1 (by kernel_rfl) (by kernel_rfl) ?_; intro hLC)); (repeat (go_big_quiet_step ((go_at_call 23; exact Calls.later_of (value_p _ _ _ _ _ _))))); refine wpQuiet_nil ?_; intro w2 hb2; clear hLC; have hsz := hb2.size; (try simp at hsz); (first | (have hbl := blater2 HA (by first | exact Nat.le_refl _ | (simp; done) | (simp; omega)) hb2; obtain ⟨hcc, hff, HA, hne, hne'⟩ := hbl) | (obtain ⟨hcc, hff, HA, hne, hne'⟩ := blater1 hb2)); (try simp only [World.size_alloc, World.size_setCell] at HA); go_wp2_with (first | (go_at_call 19; refine (check_p _ _ _ _).mono ?_; rintro e w1 ⟨rfl, hb⟩; have hsz := hb.size; (try simp at hsz); (first | (have hbl := blater2 HA (by first | exact Nat.le_refl _ | (simp; done) | (simp; omega)) hb; obtain ⟨hcc, hff, HA, hne, hne'⟩ := hbl) | (obtain ⟨hcc, hff, HA, hne, hne'⟩ := blater1 hb)); (try simp only [World.size_alloc, World.size_setCell] at HA)) | (go_at_call 23; refine (value_p _ _ _ _ _ _).mono ?_; rintro e w1 ⟨rfl, hb⟩; have hsz := hb.size; (try simp at hsz); (first | (have hbl := blater2 HA (by first | exact Nat.le_refl _ | (simp; done) | (simp; omega)) hb; obtain ⟨hcc, hff, HA, hne, hne'⟩ := hbl) | (obtain ⟨hcc, hff, HA, hne, hne'⟩ := blater1 hb)); (try simp only [World.size_alloc, World.size_setCell] at HA)) | (go_at_call 55; refine (asked_p _ _ _ _ _ _).mono ?_; rintro e w1 ⟨rfl, hb⟩; have hsz := hb.size; (try simp at hsz); (first | (have hbl := blater2 HA (by first | exact Nat.le_refl _ | (simp; done) | (simp; omega)) hb; obtain ⟨hcc, hff, HA, hne, hne'⟩ := hbl) | (obtain ⟨hcc, hff, HA, hne, hne'⟩ := blater1 hb)); (try simp only [World.size_alloc, World.size_setCell] at HA))))
      · go_light
        have hne : (Rval x y z d l).2 ≠ 0 := by simp at *; assumption
        rw [← HR.out, drop_cons hlt HD.out, drop_cons hlt2 HL.out, rput_err1 vs hne]
        refine bodyPost_ret (v := .tuple #[.slice none 0 0, .agg #[.int .i64 0, .int .i64 0, .int .i64 0], .int .i64 (Rval x y z d l).2]) (by simp [results, Try.results31, go_sem, *]) rfl (runPost2_err _ ?_)
        have B2 : Below w.heap.size w w2 := B0.trans (hb2.mono (by omega))
        repeat' (first | exact Below.refl _ _ | refine Below.drew ?_ | refine below_drewN ?_ _ | refine Below.alloc ?_ (by first | omega | (simp <;> omega)) _ | refine Below.setCell ?_ (by first | omega | (simp <;> omega)) _ | refine Below.trans ?_ (Below.mono (by assumption) (by first | omega | (simp <;> omega))))
      · have hs2 : wr.heap.size ≤ w2.heap.size := by omega
        have B2 : Below w.heap.size w w2 := B0.trans (hb2.mono (by omega))
        have O2 := ownsRow_later hown hb2
        go_cut [13, 15] (fun s13 s15 wx => s13 = .int .i64 (Rask x y z (Rval x y z d l).1 l).2.2 ∧ ∃ B15 : Nat, s15 = .pointer (some ⟨B15, 0, none⟩) ∧ wr.heap.size ≤ B15 ∧ B15 < wx.heap.size ∧ wr.heap.size ≤ wx.heap.size ∧
            wx.cell? ⟨B15, 0, none⟩ = some (.int .i64 (Rask x y z (Rval x y z d l).1 l).2.1.1) ∧ wx.cell? ⟨B15, 1, none⟩ = some (.int .i64 (Rask x y z (Rval x y z d l).1 l).2.1.2.1) ∧ wx.cell? ⟨B15, 2, none⟩ = some (.int .i64 (Rask x y z (Rval x y z d l).1 l).2.1.2.2) ∧ Below w2.heap.size w2 wx)
        case first =>
          go_region_held3 (fun w' => w'.cell? ⟨w.heap.size + 1, 0, none⟩ = some (.int .i64 x) ∧ w'.cell? ⟨w.heap.size + 1, 1, none⟩ = some (.int .i64 y) ∧ w'.cell? ⟨w.heap.size + 1, 2, none⟩ = some (.int .i64 z) ∧ w'.cell? ⟨bl, ol + k, none⟩ = some (.int .i64 l)) (first | (simp [go_sem, *]; done) | go_keep) ((go_at_call 55; refine (asked_p _ _ _ _ _ _).mono ?_; rintro e w3 ⟨rfl, hb3⟩; have hsz := hb3.size; (try simp at hsz); (first | (have hbl := blater2 HA (by first | exact Nat.le_refl _ | (simp; done) | (simp; omega)) hb3; obtain ⟨hcc, hff, HA, hne, hne'⟩ := hbl) | (obtain ⟨hcc, hff, HA, hne, hne'⟩ := blater1 hb3)); (try simp only [World.size_alloc, World.size_setCell] at HA); (have y0 : w3.cell? ⟨w.heap.size + 1, 0, none⟩ = some (.int .i64 x) := by simp [go_sem, *]); (have y1 : w3.cell? ⟨w.heap.size + 1, 1, none⟩ = some (.int .i64 y) := by simp [go_sem, *]); (have y2 : w3.cell? ⟨w.heap.size + 1, 2, none⟩ = some (.int .i64 z) := by simp [go_sem, *]); (have y3 : w3.cell? ⟨bl, ol + k, none⟩ = some (.int .i64 l) := by simp [go_sem, *])))
          all_goals (go_wp2_with fail; go_meet; go_light)
          · refine ⟨rfl, _, rfl, by omega, by simp, by simp; omega, by simp [go_sem, *], by simp [go_sem, *], by simp [go_sem, *], ?_⟩
            repeat' (first | exact Below.refl _ _ | refine Below.drew ?_ | refine below_drewN ?_ _ | refine Below.alloc ?_ (by first | omega | (simp <;> omega)) _ | refine Below.setCell ?_ (by first | omega | (simp <;> omega)) _ | refine Below.trans ?_ (Below.mono (by assumption) (by first | omega | (simp <;> omega))))
          · refine ⟨rfl, _, rfl, by omega, by simp; omega, by simp; omega, by simp [go_sem, *], by simp [go_sem, *], by simp [go_sem, *], ?_⟩
            repeat' (first | exact Below.refl _ _ | refine Below.drew ?_ | refine below_drewN ?_ _ | refine Below.alloc ?_ (by first | omega | (simp <;> omega)) _ | refine Below.setCell ?_ (by first | omega | (simp <;> omega)) _ | refine Below.trans ?_ (Below.mono (by assumption) (by first | omega | (simp <;> omega))))
        case rest =>
          obtain ⟨rfl, B15, rfl, hB1, hB2, hx1, z0, z1, z2, hb5⟩ := hcut
          have hs5 := hb5.size
          have B5 : Below w.heap.size w wc := B2.trans (hb5.mono (by omega))
          have O5 := ownsRow_later O2 hb5
          have q0 : wc.cell? ⟨w.heap.size + 1, 0, none⟩ = some (.int .i64 x) := by rw [hb5.cell (p := ⟨w.heap.size + 1, 0, none⟩) (by simp; omega), hb2.cell (p := ⟨w.heap.size + 1, 0, none⟩) (by simp; omega)]; exact x0
          have q1 : wc.cell? ⟨w.heap.size + 1, 1, none⟩ = some (.int .i64 y) := by rw [hb5.cell (p := ⟨w.heap.size + 1, 1, none⟩) (by simp; omega), hb2.cell (p := ⟨w.heap.size + 1, 1, none⟩) (by simp; omega)]; exact x1
          have q2 : wc.cell? ⟨w.heap.size + 1, 2, none⟩ = some (.int .i64 z) := by rw [hb5.cell (p := ⟨w.heap.size + 1, 2, none⟩) (by simp; omega), hb2.cell (p := ⟨w.heap.size + 1, 2, none⟩) (by simp; omega)]; exact x2
          have qf : ∀ j, wc.frozen? ⟨w.heap.size + 1, j, none⟩ = false := fun j => by rw [hb5.frozen (p := ⟨w.heap.size + 1, j, none⟩) (by simp; omega), hb2.frozen (p := ⟨w.heap.size + 1, j, none⟩) (by simp; omega)]; exact f0 j
          have ho5 := O5.lt
          have ho6 : ∀ k, u6.ownBlock = some k → k < wr.heap.size := fun k h => (hown.lt k h).2
          clear hcc hff HA hne hne' x0 x1 x2 f0 cd1 cl1
          obtain ⟨i3, hi3, hz0, hz1, hz2⟩ := info_parts info3
          have hbox : w.heap.size + 1 < wc.heap.size := by omega
          have hbne : ¬ w.heap.size + 1 = B15 := by omega
          have hbne2 : ¬ B15 = w.heap.size + 1 := by omega
          have hlen : vs.length + 1 ≤ maxLen := by have := HV.out; unfold maxLen; omega
          have hlen2 : (vs.length + 1) * 8 ≤ 140737488355328 := by have := HV.out; omega
          go_wp2_with fail
          · go_light
            have he1 : (Rval x y z d l).2 = 0 := by simp at *; assumption
            have hne : (Rask x y z (Rval x y z d l).1 l).2.2 ≠ 0 := by simp at *; assumption
            rw [← HR.out, drop_cons hlt HD.out, drop_cons hlt2 HL.out, rput_err2 vs he1 hne]
            refine bodyPost_ret (v := .tuple #[.slice none 0 0, .agg #[.int .i64 0, .int .i64 0, .int .i64 0], .int .i64 (Rask x y z (Rval x y z d l).1 l).2.2]) (by simp [results, Try.results31, go_sem, *]) rfl (runPost2_err _ ?_)
            repeat' (first | exact Below.refl _ _ | refine Below.drew ?_ | refine below_drewN ?_ _ | refine Below.alloc ?_ (by first | omega | (simp <;> omega)) _ | refine Below.setCell ?_ (by first | omega | (simp <;> omega)) _ | refine Below.trans ?_ (Below.mono (by assumption) (by first | omega | (simp <;> omega))))
          · go_region_held3 (fun w' => w'.cell? ⟨B15, 0, none⟩ = some (.int .i64 (Rask x y z (Rval x y z d l).1 l).2.1.1) ∧ w'.cell? ⟨B15, 1, none⟩ = some (.int .i64 (Rask x y z (Rval x y z d l).1 l).2.1.2.1) ∧ w'.cell? ⟨B15, 2, none⟩ = some (.int .i64 (Rask x y z (Rval x y z d l).1 l).2.1.2.2))
              (first
                | (simp [go_sem, *]; done)
                | go_keep
                | (refine ⟨?_, ?_, ?_⟩ <;> simp [go_sem, *] <;> done)
                | (go_split_ands
                   refine ⟨?_, ?_, ?_⟩ <;> (rw [hgrow6.cell_far _ (by simp; omega) (fun hh => by have := ho6 B15 hh.symm; omega)]; simp [go_sem, *])))
              ((refine step_append_lies _ (by rfl) _ _ _ (by rfl) (w.heap.size + 2) 3 i3 _ 1 8 Try.underlying38 hi3 hz0 hz1 hz2 rfl (by omega) u6 vs.length (vs.map (Value.int .i64)) (by rfl) ((O5.alloc _).drew) ⟨wc.heap.size, 0, none⟩ 1 1 [.int .i64 (Rval x y z d l).1] (by rfl) (by rfl) (World.news_of_block (cs := #[.int .i64 (Rval x y z d l).1]) (t := 3) (fr := (0, 0)) (heap_alloc_new wc _)) (by simp [Value.oneCell']) (by omega) hlen hlen2 (by simp; omega) (wc.heap.size + 1) (by simp) ?_; intro gg cap w6 hown6 hgrow6 hat hlt6; (have r0 : w6.cell? ⟨w.heap.size + 1, 0, none⟩ = some (.int .i64 x) := by (rw [hgrow6.cell_far _ (by simp; omega) (fun hh => by have := (ho5 _ hh.symm).1; simp at this)]; simp [go_sem, *])); (have r1 : w6.cell? ⟨w.heap.size + 1, 1, none⟩ = some (.int .i64 y) := by (rw [hgrow6.cell_far _ (by simp; omega) (fun hh => by have := (ho5 _ hh.symm).1; simp at this)]; simp [go_sem, *])); (have r2 : w6.cell? ⟨w.heap.size + 1, 2, none⟩ = some (.int .i64 z) := by (rw [hgrow6.cell_far _ (by simp; omega) (fun hh => by have := (ho5 _ hh.symm).1; simp at this)]; simp [go_sem, *])); (have rf : ∀ j, w6.frozen? ⟨w.heap.size + 1, j, none⟩ = false := fun j => by (rw [hgrow6.frozen_far _ (by simp; omega) (fun hh => by have := (ho5 _ hh.symm).1; simp at this)]; simp [go_sem, *])); (have s0 : w6.cell? ⟨B15, 0, none⟩ = some (.int .i64 (Rask x y z (Rval x y z d l).1 l).2.1.1) := by (rw [hgrow6.cell_far _ (by simp; omega) (fun hh => by have := ho6 B15 hh.symm; omega)]; simp [go_sem, *])); (have s1 : w6.cell? ⟨B15, 1, none⟩ = some (.int .i64 (Rask x y z (Rval x y z d l).1 l).2.1.2.1) := by (rw [hgrow6.cell_far _ (by simp; omega) (fun hh => by have := ho6 B15 hh.symm; omega)]; simp [go_sem, *])); (have s2 : w6.cell? ⟨B15, 2, none⟩ = some (.int .i64 (Rask x y z (Rval x y z d l).1 l).2.1.2.2) := by (rw [hgrow6.cell_far _ (by simp; omega) (fun hh => by have := ho6 B15 hh.symm; omega)]; simp [go_sem, *]))))
            go_wp2_with fail
            go_roundw
            case rel =>
              go_light
              have he1 : (Rval x y z d l).2 = 0 := by simp at *; assumption
              have he2 : (Rask x y z (Rval x y z d l).1 l).2.2 = 0 := by simp at *; assumption
              have hg6 := hgrow6.size
              simp at hg6
              have B6 : Below w.heap.size w w6 := by
                refine Below.grown (row := u6.ownBlock) ?_ hgrow6 (by simp; omega) (fun k hk => by have := (ho5 k hk).1; omega)
                repeat' (first | exact Below.refl _ _ | refine Below.drew ?_ | refine below_drewN ?_ _ | refine Below.alloc ?_ (by first | omega | (simp <;> omega)) _ | refine Below.setCell ?_ (by first | omega | (simp <;> omega)) _ | refine Below.trans ?_ (Below.mono (by assumption) (by first | omega | (simp <;> omega))))
              have O6 : (((w6.setCell ⟨w.heap.size + 1, 0, none⟩ (.int .i64 (Rask x y z (Rval x y z d l).1 l).2.1.1)).setCell ⟨w.heap.size + 1, 1, none⟩ (.int .i64 (Rask x y z (Rval x y z d l).1 l).2.1.2.1)).setCell ⟨w.heap.size + 1, 2, none⟩ (.int .i64 (Rask x y z (Rval x y z d l).1 l).2.1.2.2)).ownsRow (w.heap.size + 2) 3 1 (.slice (some ⟨gg, 0, none⟩) (vs.length + 1) cap) (vs ++ [(Rval x y z d l).1]).length ((vs ++ [(Rval x y z d l).1]).map (Value.int .i64)) := by
                have := ownsRow_setCell_below (ownsRow_setCell_below (ownsRow_setCell_below hown6 (a := ⟨w.heap.size + 1, 0, none⟩) (by simp) (.int .i64 (Rask x y z (Rval x y z d l).1 l).2.1.1)) (a := ⟨w.heap.size + 1, 1, none⟩) (by simp) (.int .i64 (Rask x y z (Rval x y z d l).1 l).2.1.2.1)) (a := ⟨w.heap.size + 1, 2, none⟩) (by simp) (.int .i64 (Rask x y z (Rval x y z d l).1 l).2.1.2.2)
                simpa using this
              refine ⟨k + 1, vs ++ [(Rval x y z d l).1], (Rask x y z (Rval x y z d l).1 l).2.1.1, (Rask x y z (Rval x y z d l).1 l).2.1.2.1, (Rask x y z (Rval x y z d l).1 l).2.1.2.2, by omega, by go_num, O6, ?_, by simp [go_sem, *], by simp [go_sem, *], by simp [go_sem, *], by intro j; simp [go_sem, *], ?_, by simp; omega, ?_⟩
              · have := HV.out
                show (vs ++ [(Rval x y z d l).1]).length = k + 1
                simp [this]
              · repeat' (first | exact Below.refl _ _ | refine Below.drew ?_ | refine below_drewN ?_ _ | refine Below.alloc ?_ (by first | omega | (simp <;> omega)) _ | refine Below.setCell ?_ (by first | omega | (simp <;> omega)) _ | refine Below.trans ?_ (Below.mono (by assumption) (by first | omega | (simp <;> omega))))
              · show rput (vs ++ [(Rval x y z d l).1]) _ = _
                rw [← HR.out, drop_cons hlt HD.out, drop_cons hlt2 HL.out, rput_step vs he1 he2]
            case measure => go_light; simp [intOf]; omega
    · have hkk : k = ds.length := by omega
      obtain ⟨pa, ca, rfl, _, hrow⟩ := Row.of_own hown
      have hR : rput [] (rvals a b c ds ls) = (vs, (x, y, z), 0) := by rw [← HR.out, hkk, List.drop_length, rput_nil]
      have HF := Lib.hid hR
      subst hkk
      clear hR
      go_wp2_with fail
      go_region
      go_wp2
      go_light
      rw [HF.out]
      refine bodyPost_ret (v := .tuple #[.slice pa vs.length ca, .agg #[.int .i64 x, .int .i64 y, .int .i64 z], .int .i64 0]) (by simp [results, Try.results31, go_sem, *]) rfl ⟨pa, ca, rfl, fun g hg => by have := own_base_o hown g (by simpa [Value.ownBlock] using hg); omega, ?_, ?_⟩
      · refine Row.of_own_slice (base := w.heap.size + 2) (e := 3) (n := vs.length) (m := vs.length) (cap := ca) (xs := vs) ?_
        repeat' (first | exact hown | (refine ownsRow_setCell_below ?_ (by simp) _) | (refine ownsRow_later ?_ (Below.drew (Below.refl _ _))))
      · repeat' (first | exact Below.refl _ _ | refine Below.drew ?_ | refine below_drewN ?_ _ | refine Below.alloc ?_ (by first | omega | (simp <;> omega)) _ | refine Below.setCell ?_ (by first | omega | (simp <;> omega)) _ | refine Below.trans ?_ (Below.mono (by assumption) (by first | omega | (simp <;> omega))))

set_option maxHeartbeats 1000000 in
theorem values2_e1 (a b c : Int) (pd pl : Option Addr) (ds ls : List Int) (cd cl : Nat) (w : World) (hc : (chkL true [a, b, c] != 0) = true) :
    Calls Try.prog 31 #[.agg #[.int .i64 a, .int .i64 b, .int .i64 c], .slice pd ds.length cd, .slice pl ls.length cl] w (RunPost2 ([], (0, 0, 0), chkL true [a, b, c]) w) := by
  go_enter Try.func31, Try.ntmps31
  go_wp2_with (first | (go_at_call 19; refine (check_p _ _ _ _).mono ?_; rintro e w1 ⟨rfl, hb⟩; have hsz := hb.size; (try simp at hsz); (first | (have hbl := blater2 HA (by first | exact Nat.le_refl _ | (simp; done) | (simp; omega)) hb; obtain ⟨hcc, hff, HA, hne, hne'⟩ := hbl) | (obtain ⟨hcc, hff, HA, hne, hne'⟩ := blater1 hb)); (try simp only [World.size_alloc, World.size_setCell] at HA)) | (go_at_call 23; refine (value_p _ _ _ _ _ _).mono ?_; rintro e w1 ⟨rfl, hb⟩; have hsz := hb.size; (try simp at hsz); (first | (have hbl := blater2 HA (by first | exact Nat.le_refl _ | (simp; done) | (simp; omega)) hb; obtain ⟨hcc, hff, HA, hne, hne'⟩ := hbl) | (obtain ⟨hcc, hff, HA, hne, hne'⟩ := blater1 hb)); (try simp only [World.size_alloc, World.size_setCell] at HA)) | (go_at_call 55; refine (asked_p _ _ _ _ _ _).mono ?_; rintro e w1 ⟨rfl, hb⟩; have hsz := hb.size; (try simp at hsz); (first | (have hbl := blater2 HA (by first | exact Nat.le_refl _ | (simp; done) | (simp; omega)) hb; obtain ⟨hcc, hff, HA, hne, hne'⟩ := hbl) | (obtain ⟨hcc, hff, HA, hne, hne'⟩ := blater1 hb)); (try simp only [World.size_alloc, World.size_setCell] at HA)))
  repeat' (first | (go_region <;> go_wp2_with (first | (go_at_call 19; refine (check_p _ _ _ _).mono ?_; rintro e w1 ⟨rfl, hb⟩; have hsz := hb.size; (try simp at hsz); (first | (have hbl := blater2 HA (by first | exact Nat.le_refl _ | (simp; done) | (simp; omega)) hb; obtain ⟨hcc, hff, HA, hne, hne'⟩ := hbl) | (obtain ⟨hcc, hff, HA, hne, hne'⟩ := blater1 hb)); (try simp only [World.size_alloc, World.size_setCell] at HA)) | (go_at_call 23; refine (value_p _ _ _ _ _ _).mono ?_; rintro e w1 ⟨rfl, hb⟩; have hsz := hb.size; (try simp at hsz); (first | (have hbl := blater2 HA (by first | exact Nat.le_refl _ | (simp; done) | (simp; omega)) hb; obtain ⟨hcc, hff, HA, hne, hne'⟩ := hbl) | (obtain ⟨hcc, hff, HA, hne, hne'⟩ := blater1 hb)); (try simp only [World.size_alloc, World.size_setCell] at HA)) | (go_at_call 55; refine (asked_p _ _ _ _ _ _).mono ?_; rintro e w1 ⟨rfl, hb⟩; have hsz := hb.size; (try simp at hsz); (first | (have hbl := blater2 HA (by first | exact Nat.le_refl _ | (simp; done) | (simp; omega)) hb; obtain ⟨hcc, hff, HA, hne, hne'⟩ := hbl) | (obtain ⟨hcc, hff, HA, hne, hne'⟩ := blater1 hb)); (try simp only [World.size_alloc, World.size_setCell] at HA)))))
  go_light
  refine bodyPost_ret (v := .tuple #[.slice none 0 0, .agg #[.int .i64 0, .int .i64 0, .int .i64 0], .int .i64 (chkL true [a, b, c])]) (by simp [results, Try.results31, go_sem, *]) rfl (runPost2_err _ ?_)
  repeat' (first | exact Below.refl _ _ | refine Below.drew ?_ | refine below_drewN ?_ _ | refine Below.alloc ?_ (by first | omega | (simp <;> omega)) _ | refine Below.setCell ?_ (by first | omega | (simp <;> omega)) _ | refine Below.trans ?_ (Below.mono (by assumption) (by first | omega | (simp <;> omega))))

set_option maxHeartbeats 1000000 in
theorem values2_e2 (a b c : Int) (pd pl : Option Addr) (ds ls : List Int) (cd cl : Nat) (w : World) (hc : chkL true [a, b, c] = 0) (hn : 100000 < ds.length) (hm : ds.length ≤ 9223372036854775807) :
    Calls Try.prog 31 #[.agg #[.int .i64 a, .int .i64 b, .int .i64 c], .slice pd ds.length cd, .slice pl ls.length cl] w (RunPost2 ([], (0, 0, 0), 6) w) := by
  have hn1 : decide ((100000 : Int) < (ds.length : Int)) = true := by simp; omega
  go_enter Try.func31, Try.ntmps31
  go_wp2_with (first | (go_at_call 19; refine (check_p _ _ _ _).mono ?_; rintro e w1 ⟨rfl, hb⟩; have hsz := hb.size; (try simp at hsz); (first | (have hbl := blater2 HA (by first | exact Nat.le_refl _ | (simp; done) | (simp; omega)) hb; obtain ⟨hcc, hff, HA, hne, hne'⟩ := hbl) | (obtain ⟨hcc, hff, HA, hne, hne'⟩ := blater1 hb)); (try simp only [World.size_alloc, World.size_setCell] at HA)) | (go_at_call 23; refine (value_p _ _ _ _ _ _).mono ?_; rintro e w1 ⟨rfl, hb⟩; have hsz := hb.size; (try simp at hsz); (first | (have hbl := blater2 HA (by first | exact Nat.le_refl _ | (simp; done) | (simp; omega)) hb; obtain ⟨hcc, hff, HA, hne, hne'⟩ := hbl) | (obtain ⟨hcc, hff, HA, hne, hne'⟩ := blater1 hb)); (try simp only [World.size_alloc, World.size_setCell] at HA)) | (go_at_call 55; refine (asked_p _ _ _ _ _ _).mono ?_; rintro e w1 ⟨rfl, hb⟩; have hsz := hb.size; (try simp at hsz); (first | (have hbl := blater2 HA (by first | exact Nat.le_refl _ | (simp; done) | (simp; omega)) hb; obtain ⟨hcc, hff, HA, hne, hne'⟩ := hbl) | (obtain ⟨hcc, hff, HA, hne, hne'⟩ := blater1 hb)); (try simp only [World.size_alloc, World.size_setCell] at HA)))
  repeat' (first | (go_region <;> go_wp2_with (first | (go_at_call 19; refine (check_p _ _ _ _).mono ?_; rintro e w1 ⟨rfl, hb⟩; have hsz := hb.size; (try simp at hsz); (first | (have hbl := blater2 HA (by first | exact Nat.le_refl _ | (simp; done) | (simp; omega)) hb; obtain ⟨hcc, hff, HA, hne, hne'⟩ := hbl) | (obtain ⟨hcc, hff, HA, hne, hne'⟩ := blater1 hb)); (try simp only [World.size_alloc, World.size_setCell] at HA)) | (go_at_call 23; refine (value_p _ _ _ _ _ _).mono ?_; rintro e w1 ⟨rfl, hb⟩; have hsz := hb.size; (try simp at hsz); (first | (have hbl := blater2 HA (by first | exact Nat.le_refl _ | (simp; done) | (simp; omega)) hb; obtain ⟨hcc, hff, HA, hne, hne'⟩ := hbl) | (obtain ⟨hcc, hff, HA, hne, hne'⟩ := blater1 hb)); (try simp only [World.size_alloc, World.size_setCell] at HA)) | (go_at_call 55; refine (asked_p _ _ _ _ _ _).mono ?_; rintro e w1 ⟨rfl, hb⟩; have hsz := hb.size; (try simp at hsz); (first | (have hbl := blater2 HA (by first | exact Nat.le_refl _ | (simp; done) | (simp; omega)) hb; obtain ⟨hcc, hff, HA, hne, hne'⟩ := hbl) | (obtain ⟨hcc, hff, HA, hne, hne'⟩ := blater1 hb)); (try simp only [World.size_alloc, World.size_setCell] at HA)))))
  go_light
  refine bodyPost_ret (v := .tuple #[.slice none 0 0, .agg #[.int .i64 0, .int .i64 0, .int .i64 0], .int .i64 (6)]) (by simp [results, Try.results31, go_sem, *]) rfl (runPost2_err _ ?_)
  repeat' (first | exact Below.refl _ _ | refine Below.drew ?_ | refine below_drewN ?_ _ | refine Below.alloc ?_ (by first | omega | (simp <;> omega)) _ | refine Below.setCell ?_ (by first | omega | (simp <;> omega)) _ | refine Below.trans ?_ (Below.mono (by assumption) (by first | omega | (simp <;> omega))))

set_option maxHeartbeats 1000000 in
theorem values2_e3 (a b c : Int) (pd pl : Option Addr) (ds ls : List Int) (cd cl : Nat) (w : World) (hc : chkL true [a, b, c] = 0) (hn : ds.length ≤ 100000) (he : ls.length ≠ ds.length) :
    Calls Try.prog 31 #[.agg #[.int .i64 a, .int .i64 b, .int .i64 c], .slice pd ds.length cd, .slice pl ls.length cl] w (RunPost2 ([], (0, 0, 0), 2) w) := by
  have hn1 : decide ((100000 : Int) < (ds.length : Int)) = false := by simp; omega
  have hn2 : ((ls.length : Int) != (ds.length : Int)) = true := by simp; omega
  clear he
  go_enter Try.func31, Try.ntmps31
  go_wp2_with (first | (go_at_call 19; refine (check_p _ _ _ _).mono ?_; rintro e w1 ⟨rfl, hb⟩; have hsz := hb.size; (try simp at hsz); (first | (have hbl := blater2 HA (by first | exact Nat.le_refl _ | (simp; done) | (simp; omega)) hb; obtain ⟨hcc, hff, HA, hne, hne'⟩ := hbl) | (obtain ⟨hcc, hff, HA, hne, hne'⟩ := blater1 hb)); (try simp only [World.size_alloc, World.size_setCell] at HA)) | (go_at_call 23; refine (value_p _ _ _ _ _ _).mono ?_; rintro e w1 ⟨rfl, hb⟩; have hsz := hb.size; (try simp at hsz); (first | (have hbl := blater2 HA (by first | exact Nat.le_refl _ | (simp; done) | (simp; omega)) hb; obtain ⟨hcc, hff, HA, hne, hne'⟩ := hbl) | (obtain ⟨hcc, hff, HA, hne, hne'⟩ := blater1 hb)); (try simp only [World.size_alloc, World.size_setCell] at HA)) | (go_at_call 55; refine (asked_p _ _ _ _ _ _).mono ?_; rintro e w1 ⟨rfl, hb⟩; have hsz := hb.size; (try simp at hsz); (first | (have hbl := blater2 HA (by first | exact Nat.le_refl _ | (simp; done) | (simp; omega)) hb; obtain ⟨hcc, hff, HA, hne, hne'⟩ := hbl) | (obtain ⟨hcc, hff, HA, hne, hne'⟩ := blater1 hb)); (try simp only [World.size_alloc, World.size_setCell] at HA)))
  repeat' (first | (go_region <;> go_wp2_with (first | (go_at_call 19; refine (check_p _ _ _ _).mono ?_; rintro e w1 ⟨rfl, hb⟩; have hsz := hb.size; (try simp at hsz); (first | (have hbl := blater2 HA (by first | exact Nat.le_refl _ | (simp; done) | (simp; omega)) hb; obtain ⟨hcc, hff, HA, hne, hne'⟩ := hbl) | (obtain ⟨hcc, hff, HA, hne, hne'⟩ := blater1 hb)); (try simp only [World.size_alloc, World.size_setCell] at HA)) | (go_at_call 23; refine (value_p _ _ _ _ _ _).mono ?_; rintro e w1 ⟨rfl, hb⟩; have hsz := hb.size; (try simp at hsz); (first | (have hbl := blater2 HA (by first | exact Nat.le_refl _ | (simp; done) | (simp; omega)) hb; obtain ⟨hcc, hff, HA, hne, hne'⟩ := hbl) | (obtain ⟨hcc, hff, HA, hne, hne'⟩ := blater1 hb)); (try simp only [World.size_alloc, World.size_setCell] at HA)) | (go_at_call 55; refine (asked_p _ _ _ _ _ _).mono ?_; rintro e w1 ⟨rfl, hb⟩; have hsz := hb.size; (try simp at hsz); (first | (have hbl := blater2 HA (by first | exact Nat.le_refl _ | (simp; done) | (simp; omega)) hb; obtain ⟨hcc, hff, HA, hne, hne'⟩ := hbl) | (obtain ⟨hcc, hff, HA, hne, hne'⟩ := blater1 hb)); (try simp only [World.size_alloc, World.size_setCell] at HA)))))
  go_light
  refine bodyPost_ret (v := .tuple #[.slice none 0 0, .agg #[.int .i64 0, .int .i64 0, .int .i64 0], .int .i64 (2)]) (by simp [results, Try.results31, go_sem, *]) rfl (runPost2_err _ ?_)
  repeat' (first | exact Below.refl _ _ | refine Below.drew ?_ | refine below_drewN ?_ _ | refine Below.alloc ?_ (by first | omega | (simp <;> omega)) _ | refine Below.setCell ?_ (by first | omega | (simp <;> omega)) _ | refine Below.trans ?_ (Below.mono (by assumption) (by first | omega | (simp <;> omega))))

theorem values2_p (a b c : Int) (pd pl : Option Addr) (ds ls : List Int) (cd cl : Nat) (w : World) (hd : Row .i64 w pd ds) (hl : Row .i64 w pl ls) (hm : ds.length ≤ 9223372036854775807) :
    Calls Try.prog 31 #[.agg #[.int .i64 a, .int .i64 b, .int .i64 c], .slice pd ds.length cd, .slice pl ls.length cl] w (RunPost2 (Rvalues a b c ds ls) w) := by
  unfold Rvalues
  split
  · rename_i h; exact values2_e1 a b c pd pl ds ls cd cl w (by simpa using h)
  · rename_i h
    have hc : chkL true [a, b, c] = 0 := by simpa using h
    split
    · rename_i h2; exact values2_e2 a b c pd pl ds ls cd cl w hc h2 hm
    · rename_i h2
      split
      · rename_i h3; exact values2_e3 a b c pd pl ds ls cd cl w hc (by omega) h3
      · rename_i h3; exact values2_p1 a b c pd pl ds ls cd cl w hd hl hc (by omega) (by simpa using h3)
end Go.Proofs.Ytenhglamnpmkaaa
