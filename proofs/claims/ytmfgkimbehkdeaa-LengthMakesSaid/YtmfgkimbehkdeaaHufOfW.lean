/-
  The program's lengths of counts, walked.
-/
import Derived.Test.YtmfgkimbehkdeaaRows
import Derived.Test.YtmfgkimbehkdeaaHufChk
import Derived.Test.YtmfgkimbehkdeaaHufDep
import Derived.Test.YtmfgkimbehkdeaaGBase
import Derived.Deep.Light
import Derived.Shelf.Abstract
import Derived.Shelf.RegionOpen
import Derived.OwnWalkIn
import Derived.TacticsInMore
import Derived.LoopNIn
import Derived.LoopIn
import Derived.Outline
import Derived.Deep.LoopGhost
import Derived.IntWalk
namespace Go.Proofs.Ytmfgkimbehkdeaa
open Go.RowKit
set_option linter.unusedSimpArgs false
set_option linter.unusedVariables false
attribute [local go_sem] Oper.semAt_some

theorem checked_c (a : Option Addr) (xs : List Int) (cap : Nat) (w : World) (ha : Row .i64 w a xs) (hl : xs.length ≤ 9223372036854775807) : Calls Try.prog 28 #[.slice a xs.length cap] w fun e w' => e = .returned (.int .i64 (chkL xs)) ∧ Below w.heap.size w w' := by
  by_cases h : cchk xs = 0
  · have hd := fun W (hW : Row .i64 W a xs) => distinct_p a xs cap W hW hl
    have e0 : rDist xs = ((((occ 0 xs).length : Nat) : Int), 0) := by unfold rDist; rw [if_pos h]
    rw [e0] at hd
    by_cases h2 : (occ 0 xs).length < 2
    · have e1 : chkL xs = 7 := by unfold chkL; rw [if_pos h, if_pos h2]
      have E1 := Lib.hid e1
      obtain ⟨m, hm⟩ : ∃ m, (occ 0 xs).length = m := ⟨_, rfl⟩
      rw [hm] at hd h2
      have h3 : (m : Int) < 2 := by omega
      clear e1 e0 hm
      go_enter Try.func28, Try.ntmps28
      go_wp2_with (first | (go_at_call 33; refine (check_c _ _ _ _ ha hl).mono ?_; rintro e w1 ⟨rfl, hb⟩; have hsz := hb.size; replace ha := ha.later hb) | (go_at_call 38; refine (hd _ ha).mono ?_; rintro e w2 ⟨rfl, hb2⟩))
      go_light
      refine bodyPost_ret (v := .int .i64 7) (by simp [results, Try.results28, go_sem, *]) rfl ⟨by rw [E1.out], ?_⟩
      exact hb.trans (hb2.mono hb.size)
    · have e1 : chkL xs = 0 := by unfold chkL; rw [if_pos h, if_neg h2]
      have E1 := Lib.hid e1
      obtain ⟨m, hm⟩ : ∃ m, (occ 0 xs).length = m := ⟨_, rfl⟩
      rw [hm] at hd h2
      have h3 : ¬ (m : Int) < 2 := by omega
      clear e1 e0 hm
      go_enter Try.func28, Try.ntmps28
      go_wp2_with (first | (go_at_call 33; refine (check_c _ _ _ _ ha hl).mono ?_; rintro e w1 ⟨rfl, hb⟩; have hsz := hb.size; replace ha := ha.later hb) | (go_at_call 38; refine (hd _ ha).mono ?_; rintro e w2 ⟨rfl, hb2⟩))
      go_light
      refine bodyPost_ret (v := .int .i64 0) (by simp [results, Try.results28, go_sem, *]) rfl ⟨by rw [E1.out], ?_⟩
      exact hb.trans (hb2.mono hb.size)
  · have e1 : chkL xs = cchk xs := by unfold chkL; rw [if_neg h]
    rw [e1]
    have hc := fun W (hW : Row .i64 W a xs) => check_c a xs cap W hW hl
    generalize cchk xs = c at h hc
    have h4 : (c != 0) = true := by simpa using h
    clear e1
    go_enter Try.func28, Try.ntmps28
    go_wp2_with ((go_at_call 33; refine (hc _ ha).mono ?_; rintro e w1 ⟨rfl, hb⟩))
    go_light
    refine bodyPost_ret (v := .int .i64 c) (by simp [results, Try.results28, go_sem, *]) rfl ⟨rfl, hb⟩

theorem depths_w (a : Option Addr) (xs : List Int) (cap : Nat) (w : World) (ha : Row .i64 w a xs) (hl : xs.length ≤ 9223372036854775807) : Calls Try.prog 12 #[.slice a xs.length cap] w (ListPost (rDep xs) w) := by
  unfold rDep
  by_cases h : chkL xs = 0
  · rw [if_pos h]
    have hr := Right.of h
    have hc := fun W (hW : Row .i64 W a xs) => checked_c a xs cap W hW hl
    rw [h] at hc
    obtain ⟨ns, hns⟩ : ∃ ns, nn xs = ns := ⟨_, rfl⟩
    rw [hns] at hr ⊢
    obtain ⟨h1, h2, h3, h5⟩ := hr
    clear hns h
    have hlen : xs.length = ns.length := by rw [h1, ints_length]
    rw [hlen] at hc ⊢
    rw [h1] at ha hc
    have hd := fun W (hW : Row .i64 W a (ints ns)) => depths_p a ns cap W hW h2 h3 (by omega)
    have HD : Hid ((depthsL ns).length = (ints (depthsL ns)).length) := Lib.hid (by rw [ints_length])
    have H3 := Lib.hid h3
    clear h1 h3 hlen hl
    generalize depthsL ns = R at hd HD
    go_enter Try.func12, Try.ntmps12
    go_wp2_with (first | (go_at_call 28; refine (hc _ ha).mono ?_; rintro e w1 ⟨rfl, hb⟩; replace ha := ha.later hb) | (go_at_call 29; refine (hd _ ha).mono ?_; rintro e w2 ⟨B, rfl, hA, hBB, hb2⟩))
    go_light
    go_ret2
    exact ⟨some ⟨B, 0, none⟩, _, by rw [HD.out]; rfl, Blk.row hA, hb.trans (hb2.mono hb.size)⟩
  · rw [if_neg h]
    have hc := fun W (hW : Row .i64 W a xs) => checked_c a xs cap W hW hl
    generalize chkL xs = c at h hc
    have h4 : (c != 0) = true := by simpa using h
    go_enter Try.func12, Try.ntmps12
    go_wp2_with ((go_at_call 28; refine (hc _ ha).mono ?_; rintro e w1 ⟨rfl, hb⟩))
    go_light
    go_ret2
    exact ⟨none, 0, rfl, .inl rfl, hb⟩

theorem own_some {w : World} {base : Nat} {e : TypeId} {v : Value} {n : Nat} {xs : List Value} (h : w.ownsRow base e 1 v n xs) (hn : 0 < n) : ∃ g cap, v = .slice (some ⟨g, 0, none⟩) n cap ∧ base ≤ g ∧ g < w.heap.size ∧ n ≤ cap := by
  rcases h.2 with ⟨_, h⟩ | ⟨g, cap, cur, rfl, hb, hh, hc, _⟩
  · omega
  · exact ⟨g, cap, rfl, hb, (Array.getElem?_eq_some_iff.1 hh).1, hc⟩
theorem own_cell {w : World} {base : Nat} {e : TypeId} {g n cap : Nat} {xs : List Value} (h : w.ownsRow base e 1 (.slice (some ⟨g, 0, none⟩) n cap) n xs) {i : Nat} {u : Value} (hi : xs[i]? = some u) : w.cell? ⟨g, i, none⟩ = some u ∧ w.frozen? ⟨g, i, none⟩ = false := by
  rcases h.2 with ⟨h, _⟩ | ⟨g', cap', cur, hv, hb, hh, hc, hm, hs, ht⟩
  · cases h
  · cases hv
    constructor
    · have h2 : (cur.toList.take (n * 1))[i]? = some u := by rw [ht]; exact hi
      have h3 := (List.getElem?_eq_some_iff.1 h2).1
      rw [List.getElem?_take, if_pos (by simp at h3 ⊢; omega)] at h2
      simp [World.cell?, hh]
      simpa using h2
    · simp [World.frozen?, hh]
theorem own_put {w : World} {base : Nat} {e : TypeId} {g n cap : Nat} {xs : List Value} (h : w.ownsRow base e 1 (.slice (some ⟨g, 0, none⟩) n cap) n xs) (i : Nat) (u : Value) : (w.setCell ⟨g, i, none⟩ u).ownsRow base e 1 (.slice (some ⟨g, 0, none⟩) n cap) n (xs.set i u) := by
  obtain ⟨hl, h⟩ := h
  refine ⟨by simpa using hl, ?_⟩
  rcases h with ⟨h, _⟩ | ⟨g', cap', cur, hv, hb, hh, hc, hm, hs, ht⟩
  · cases h
  · cases hv
    refine .inr ⟨g, cap, cur.setIfInBounds i u, rfl, hb, ?_, hc, hm, by simpa using hs, ?_⟩
    · simp [World.setCell, Array.getElem?_modify, hh]
    · rw [Array.toList_setIfInBounds, List.take_set, ht]
theorem of_next {l : List Nat} (h : 1 ≤ (leaves 0 l).length) (hl : l.length ≤ 256) (hh : (depthsL l).any (fun x => 11 < x) = true) : ofL l.sum l = ofL (halve l).sum (halve l) := by
  have h1 := of_falls h hl hh
  obtain ⟨k, hk⟩ : ∃ k, l.sum = k + 1 := ⟨l.sum - 1, by omega⟩
  rw [hk]
  show (if _ then _ else _) = _
  rw [if_pos hh]
  exact of_more _ _ _ (by rw [halve_leaves]; exact h) (by simpa [halve] using hl) (by omega) (Nat.le_refl _)
/-- The first i are halved. -/
def hpre (ms : List Nat) (i : Nat) : List Nat := halve (ms.take i) ++ ms.drop i
theorem hpre_len (ms : List Nat) (i : Nat) : (hpre ms i).length = ms.length := by simp [hpre, halve]; omega
theorem hpre_zero (ms : List Nat) : hpre ms 0 = ms := by simp [hpre, halve]
theorem hpre_all (ms : List Nat) : hpre ms ms.length = halve ms := by simp [hpre]
theorem hpre_at {ms : List Nat} {i : Nat} (h : i < ms.length) : (hpre ms i)[i]? = some ms[i] := by
  unfold hpre
  rw [List.getElem?_append_right (by simp [halve]; omega)]
  simp [halve, Nat.min_eq_left (Nat.le_of_lt h), h]
theorem hpre_set {ms : List Nat} {i : Nat} (h : i < ms.length) : (hpre ms i).set i (ms[i] - ms[i] / 2) = hpre ms (i + 1) := by
  unfold hpre
  rw [List.set_append_right _ _ (by simp [halve]; omega), List.take_succ_eq_append_getElem h]
  simp only [halve, List.map_append, List.length_map, List.length_take, Nat.min_eq_left (Nat.le_of_lt h), Nat.sub_self, List.map_cons, List.map_nil]
  rw [List.drop_eq_getElem_cons h, List.set_cons_zero, List.append_assoc]
  rfl
set_option maxRecDepth 100000 in
set_option maxHeartbeats 4000000 in
theorem of_1 (a : Option Addr) (ns : List Nat) (cap : Nat) (w : World) (ha : Row .i64 w a (ints ns)) (h2 : ns.length ≤ 256) (h3 : ns.sum ≤ 1099511627776) (h5 : 2 ≤ (leaves 0 ns).length) (hc : ∀ W, Row .i64 W a (ints ns) → Calls Try.prog 28 #[.slice a ns.length cap] W fun e w' => e = .returned (.int .i64 0) ∧ Below W.heap.size W w') :
    Calls Try.prog 10 #[.slice a ns.length cap] w (ListPost (ints (ofL ns.sum ns), 0) w) := by
  obtain ⟨i0, hi, hz0, hz1, hz2⟩ := info_parts infoInt
  have hn2 : 2 ≤ ns.length := by have := leaves_le ns 0; omega
  have H3 := Lib.hid h3
  have H5 := Lib.hid h5
  clear h3 h5
  go_enter Try.func10, Try.ntmps10
  go_wp2
  go_step3
  go_wp2_with (first | (go_at_call 28; refine (hc _ ha).mono ?_; rintro e w1 ⟨rfl, hb⟩; replace ha := ha.later hb) | (at_builtin; refine wpList_append_any _ rfl _ _ 22 rfl w1.heap.size 3 i0 (.int .i64 0) 8 Try.underlying22 hi hz0 hz1 hz2 rfl (.slice (some ⟨w1.heap.size, 0, none⟩) 0 0) 0 [] rfl (ownsRow_made w1 3) a ns.length cap ((ints ns).map (Value.int .i64)) rfl (by simp [ints]) (ha.later ((Below.refl _ _).alloc (Nat.le_refl _) _)).vals (ints_one _ _) (by unfold maxLen; omega) (by omega) (by simp) (by simp) ?_; intro v1 w2 hown1 hgrow1))
  rw [List.nil_append, Nat.zero_add] at hown1
  obtain ⟨g, gc, rfl, hg, hgl, hgc⟩ := own_some hown1 (by omega)
  have B1 : Below w.heap.size w w2 := by
    have hsz := hb.size
    refine ((hb.alloc hb.size _).grown hgrow1 (by simp; omega) (fun k hk => by simp [Value.ownBlock] at hk; omega))
  have S1 := hb.size
  have HN2 := Lib.hid hn2
  have hgw : w.heap.size ≤ g := by omega
  have HG := Lib.hid hgw
  clear hb hgrow1 ha hn2 hgc hg hgw
  go_step3
  go_wp2
  go_loopg [] ns.sum (fun k wr => ∃ ms : List Nat, k = ms.sum ∧ Hid (wr.ownsRow w1.heap.size 3 1 (.slice (some ⟨g, 0, none⟩) ns.length gc) ns.length ((ints ms).map (Value.int .i64))) ∧ Hid (ms.length = ns.length) ∧ Hid (ms.sum ≤ 1099511627776 ∧ 2 ≤ (leaves 0 ms).length) ∧ Hid (ofL ns.sum ns = ofL ms.sum ms) ∧ Below w.heap.size w wr)
  case atStart => exact ⟨ns, rfl, Lib.hid hown1, Lib.hid rfl, Lib.hid ⟨H3.out, H5.out⟩, Lib.hid rfl, B1⟩
  case round =>
    clear hown1 B1 hgl
    obtain ⟨ms, hgk, HO, HL, HS, HR, hB⟩ := hrel
    have hd := fun W (hW : Row .i64 W (some ⟨g, 0, none⟩) (ints ms)) => depths_p (some ⟨g, 0, none⟩) ms gc W hW (by rw [HL.out]; exact h2) HS.out.1 (by have := HS.out.2; omega)
    rw [HL.out] at hd
    have hrow : Row .i64 wr (some ⟨g, 0, none⟩) (ints ms) := Row.of_own_slice HO.out
    have HDL : Hid ((depthsL ms).length = ns.length) := Lib.hid ((depthsL_len (by have := HS.out.2; omega)).trans HL.out)
    obtain ⟨D, hD⟩ : ∃ D, depthsL ms = D := ⟨_, rfl⟩
    rw [hD] at hd HDL
    have HD := Lib.hid hD
    have HGK := Lib.hid hgk
    clear hD hgk
    go_wp2_with (go_at_call 29; refine (hd _ hrow).mono ?_; rintro e w3 ⟨B, rfl, hA, hBB, hb3⟩; rw [HDL.out])
    have HO3 := Lib.hid (ownsRow_later HO.out hb3)
    have B3 : Below w.heap.size w w3 := hB.trans (hb3.mono hB.size)
    have hBl : B < w3.heap.size := Blk.lt hA
    clear HO hrow hd hb3 hB
    go_loopg [22] ns.length (fun k v wi => ∃ i : Nat, v = .int .i64 (i : Int) ∧ i ≤ ns.length ∧ k = ns.length - i ∧ Hid (∀ x ∈ D.take i, x ≤ 11) ∧ wi = w3) 
    case atStart => exact ⟨0, rfl, Nat.zero_le _, rfl, Lib.hid (by simp), rfl⟩
    case round =>
      obtain ⟨i, rfl, hi, hgi, HI, rfl⟩ := hrel
      have HGI := Lib.hid hgi
      clear hgi
      by_cases hlt : i < ns.length
      · have hlt2 : i < D.length := by rw [HDL.out]; exact hlt
        obtain ⟨d, hdd⟩ : ∃ d, D[i] = d := ⟨_, rfl⟩
        have c1 : wr.cell? ⟨B, i, none⟩ = some (.int .i64 (d : Int)) := by
          have := hA.get (i := i) (by rw [ints_length]; exact hlt2)
          rw [ints_at hlt2, hdd] at this
          exact this
        have HDD := Lib.hid hdd
        have i0 : (0 : Int) ≤ (i : Int) := by omega
        have i1 : (i : Int) < (ns.length : Int) := by omega
        clear hdd
        by_cases h11 : 11 < d
        · have j0 : (11 : Int) < (d : Int) := by omega
          have HAny : Hid ((depthsL ms).any (fun x => 11 < x) = true) := Lib.hid (by rw [HD.out]; exact List.any_eq_true.2 ⟨d, by rw [← HDD.out]; exact List.getElem_mem hlt2, by simpa using h11⟩)
          have HMS : Hid (ms.sum ≤ 1099511627776) := Lib.hid HS.out.1
          go_wp2
          obtain ⟨V, hV⟩ : ∃ V, V = wr := ⟨_, rfl⟩
          subst hV
          clear hA c1 i0 i1 j0 hBB hBl
          go_loopg [30] ns.length (fun k v wi => ∃ i : Nat, v = .int .i64 (i : Int) ∧ i ≤ ns.length ∧ k = ns.length - i ∧ Hid (wi.ownsRow w1.heap.size 3 1 (.slice (some ⟨g, 0, none⟩) ns.length gc) ns.length ((ints (hpre ms i)).map (Value.int .i64))) ∧ Below w.heap.size w wi)
          case atStart => exact ⟨0, rfl, Nat.zero_le _, rfl, Lib.hid (by rw [hpre_zero]; exact HO3.out), B3⟩
          case round =>
            clear B3
            obtain ⟨j, rfl, hj, hgj, HOj, hBj⟩ := hrel
            have HGJ := Lib.hid hgj
            clear hgj
            by_cases hlt : j < ns.length
            · have hlt2 : j < ms.length := by rw [HL.out]; exact hlt
              obtain ⟨c, hcc⟩ : ∃ c, ms[j] = c := ⟨_, rfl⟩
              have hat : ((ints (hpre ms j)).map (Value.int .i64))[j]? = some (.int .i64 (c : Int)) := by
                simp [ints, hpre_at hlt2, hcc]
              obtain ⟨c1, f1⟩ := own_cell HOj.out hat
              have hcs : c ≤ 1099511627776 := Nat.le_trans (by rw [← hcc]; exact mem_le_sum (List.getElem_mem hlt2)) HMS.out
              have HS2 : Hid ((hpre ms j).set j (c - c / 2) = hpre ms (j + 1)) := Lib.hid (by rw [← hcc]; exact hpre_set hlt2)
              clear hat hcc
              have j0 : (0 : Int) ≤ (j : Int) := by omega
              have j1 : (j : Int) < (ns.length : Int) := by omega
              have k0 : (0 : Int) ≤ (c : Int) := by omega
              have k1 : (c : Int) ≤ 1099511627776 := by omega
              go_wp2
              go_region
              go_wp2
              go_roundg (ns.length - (j + 1))
              case rel =>
                refine ⟨j + 1, by go_num, by omega, rfl, ?_, ?_⟩
                · have p1 := own_put HOj.out j (.int .i64 ((c : Int) - (c : Int) / 2))
                  have e1 : ((ints (hpre ms j)).map (Value.int .i64)).set j (.int .i64 ((c : Int) - (c : Int) / 2)) = (ints (hpre ms (j + 1))).map (Value.int .i64) := by
                    rw [← HS2.out]
                    have e2 : ((c - c / 2 : Nat) : Int) = (c : Int) - (c : Int) / 2 := by omega
                    unfold ints
                    rw [List.map_set, List.map_set, e2]
                  rw [e1] at p1
                  exact Lib.hid (ownsRow_later p1 (Below.refl _ _).drew)
                · exact (hBj.setCell (by have := HG.out; simpa using this) _).drew
              case measure => have := HGJ.out; omega
            · have e : j = ms.length := by have := HL.out; omega
              have HO2 : Hid (wr.ownsRow w1.heap.size 3 1 (.slice (some ⟨g, 0, none⟩) ns.length gc) ns.length ((ints (halve ms)).map (Value.int .i64))) := Lib.hid (by
                have := HOj.out
                rw [e, hpre_all] at this
                exact this)
              have HF2 := Lib.hid (of_falls (by have := HS.out.2; omega) (by rw [HL.out]; exact h2) HAny.out)
              have HR2 := Lib.hid (HR.out.trans (of_next (by have := HS.out.2; omega) (by rw [HL.out]; exact h2) HAny.out))
              have HS3 : Hid ((halve ms).sum ≤ 1099511627776 ∧ 2 ≤ (leaves 0 (halve ms)).length) := Lib.hid ⟨by have := HF2.out; have := HS.out.1; omega, by rw [halve_leaves]; exact HS.out.2⟩
              have HL2 : Hid ((halve ms).length = ns.length) := Lib.hid (by rw [← HL.out]; simp [halve])
              clear e
              go_wp2
              go_roundg (halve ms).sum
              case rel => exact ⟨halve ms, rfl, HO2, HL2, HS3, HR2, hBj⟩
              case measure => have := HGK.out; have := HF2.out; omega
        · have j0 : ¬ (11 : Int) < (d : Int) := by omega
          have HI2 : Hid (∀ x ∈ D.take (i + 1), x ≤ 11) := Lib.hid (by
            intro x hx
            rw [List.take_succ_eq_append_getElem hlt2, HDD.out] at hx
            rcases List.mem_append.1 hx with hx | hx
            · exact HI.out x hx
            · simp at hx; omega)
          go_wp2
          go_roundg (ns.length - (i + 1))
          case rel => exact ⟨i + 1, by go_num, by omega, rfl, HI2, rfl⟩
          case measure => have := HGI.out; omega
      · have HLow : Hid (ofL ns.sum ns = D) := Lib.hid (by
          have e : i = D.length := by have := HDL.out; omega
          have h1 := HI.out
          rw [e, List.take_length] at h1
          rw [HR.out, of_low (by rw [HD.out]; exact h1), HD.out])
        go_wp2
        (try rw [Exit.noGoto_ret])
        go_ret2
        exact ⟨some ⟨B, 0, none⟩, ns.length, by rw [HLow.out, ints_length, HDL.out]; rfl, by rw [HLow.out]; exact Blk.row hA, B3⟩

theorem of_w (a : Option Addr) (xs : List Int) (cap : Nat) (w : World) (ha : Row .i64 w a xs) (hl : xs.length ≤ 9223372036854775807) : Calls Try.prog 10 #[.slice a xs.length cap] w (ListPost (rLen xs) w) := by
  unfold rLen
  by_cases h : chkL xs = 0
  · rw [if_pos h]
    have hr := Right.of h
    have hc := fun W (hW : Row .i64 W a xs) => checked_c a xs cap W hW hl
    rw [h] at hc
    obtain ⟨ns, hns⟩ : ∃ ns, nn xs = ns := ⟨_, rfl⟩
    rw [hns] at hr ⊢
    obtain ⟨h1, h2, h3, h5⟩ := hr
    have hlen : xs.length = ns.length := by rw [h1, ints_length]
    rw [hlen] at hc ⊢
    rw [h1] at ha hc
    exact of_1 a ns cap w ha h2 h3 h5 hc
  · rw [if_neg h]
    have hc := fun W (hW : Row .i64 W a xs) => checked_c a xs cap W hW hl
    generalize chkL xs = c at h hc
    have h4 : (c != 0) = true := by simpa using h
    go_enter Try.func10, Try.ntmps10
    go_wp2
    go_step3
    go_wp2_with ((go_at_call 28; refine (hc _ ha).mono ?_; rintro e w1 ⟨rfl, hb⟩))
    go_light
    (try rw [Exit.noGoto_ret])
    go_ret2
    exact ⟨none, 0, rfl, .inl rfl, hb⟩
end Go.Proofs.Ytmfgkimbehkdeaa
