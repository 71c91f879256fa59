/-
  The reference's lengths of counts, walked.
-/
import Derived.Test.YtmfgkimbehkdeaaRows
import Derived.Test.YtmfgkimbehkdeaaHufRDep
import Derived.Test.YtmfgkimbehkdeaaHufRAsk
import Derived.Test.YtmfgkimbehkdeaaHufOfW
import Derived.Test.YtmfgkimbehkdeaaGBase
import Derived.Deep.Light
import Derived.Shelf.Abstract
import Derived.Shelf.RegionOpen
import Derived.OwnWalkIn
import Derived.TacticsInMore
import Derived.LoopNIn
import Derived.LoopIn
import Derived.Outline
import Derived.Deep.LoopGhost
import Derived.IntWalk
namespace Go.Proofs.Ytmfgkimbehkdeaa
open Go.RowKit
set_option linter.unusedSimpArgs false
set_option linter.unusedVariables false
attribute [local go_sem] Oper.semAt_some

theorem non_occ : ∀ (xs : List Int) (s : Nat), rng xs = true → nonN xs = (occ s xs).length := by
  intro xs
  induction xs with
  | nil => intro s _; rfl
  | cons x r ih =>
    intro s h
    have h2 : (0 ≤ x) ∧ rng r = true := by
      unfold rng at h ⊢
      rw [List.all_cons, Bool.and_eq_true] at h
      refine ⟨?_, h.2⟩
      have := h.1
      simp at this
      omega
    have hi := ih (s + 1) h2.2
    unfold nonN at hi ⊢
    rw [List.countP_cons, hi]
    have e : occ s (x :: r) = if 0 < x then (s, x) :: occ (s + 1) r else occ (s + 1) r := by rw [occ]
    rw [e]
    by_cases h0 : 0 < x
    · rw [if_pos h0, if_pos (by simp; omega), List.length_cons]
    · rw [if_neg h0, if_neg (by simp; omega)]
      rfl
theorem rasked_w (a : Option Addr) (xs : List Int) (cap : Nat) (w : World) (ha : Row .i64 w a xs) (hl : xs.length ≤ 9223372036854775807) : Calls Try.prog 30 #[.slice a xs.length cap] w fun e w' => e = .returned (.int .i64 (chkL xs)) ∧ Below w.heap.size w w' := by
  have qc := fun W (hW : Row .i64 W a xs) => rchecked_w a xs cap W hW hl
  have qm := fun W (hW : Row .i64 W a xs) => many_w a xs cap W hW hl
  by_cases h : cchk xs = 0
  · have E : Hid (chkL xs = if nonN xs < 2 then 7 else 0) := Lib.hid (by
      unfold chkL
      rw [if_pos h, non_occ xs 0 (cchk_ok h).2.1])
    rw [h] at qc
    obtain ⟨m, hm⟩ : ∃ m, nonN xs = m := ⟨_, rfl⟩
    rw [hm] at qm E
    clear h hm
    by_cases h2 : m < 2
    · have h3 : (m : Int) < 2 := by omega
      have E2 : Hid (chkL xs = 7) := Lib.hid (by rw [E.out, if_pos h2])
      clear E h2
      go_enter Try.func30, Try.ntmps30
      go_wp2_with (first | (go_at_call 34; (with_reducible refine (qc _ ha).mono ?_); rintro e w1 ⟨rfl, hb⟩; replace ha := ha.later hb) | (go_at_call 37; (with_reducible refine (qm _ ha).mono ?_); rintro e w2 ⟨rfl, hb2⟩))
      go_light
      refine bodyPost_ret (v := .int .i64 7) (by simp [results, Try.results30, go_sem, *]) rfl ⟨by rw [E2.out], hb.trans (hb2.mono hb.size)⟩
    · have h3 : ¬ (m : Int) < 2 := by omega
      have E2 : Hid (chkL xs = 0) := Lib.hid (by rw [E.out, if_neg h2])
      clear E h2
      go_enter Try.func30, Try.ntmps30
      go_wp2_with (first | (go_at_call 34; (with_reducible refine (qc _ ha).mono ?_); rintro e w1 ⟨rfl, hb⟩; replace ha := ha.later hb) | (go_at_call 37; (with_reducible refine (qm _ ha).mono ?_); rintro e w2 ⟨rfl, hb2⟩))
      go_light
      refine bodyPost_ret (v := .int .i64 0) (by simp [results, Try.results30, go_sem, *]) rfl ⟨by rw [E2.out], hb.trans (hb2.mono hb.size)⟩
  · have e1 : chkL xs = cchk xs := by unfold chkL; rw [if_neg h]
    rw [e1]
    generalize cchk xs = c at h qc
    have h4 : (c == 0) = false := by simpa using h
    clear e1 qm
    go_enter Try.func30, Try.ntmps30
    go_wp2_with ((go_at_call 34; (with_reducible refine (qc _ ha).mono ?_); rintro e w1 ⟨rfl, hb⟩; replace ha := ha.later hb))
    go_light
    refine bodyPost_ret (v := .int .i64 c) (by simp [results, Try.results30, go_sem, *]) rfl ⟨rfl, hb⟩

theorem rdepth_w (a : Option Addr) (xs : List Int) (cap : Nat) (w : World) (ha : Row .i64 w a xs) (hl : xs.length ≤ 9223372036854775807) : Calls Try.prog 13 #[.slice a xs.length cap] w (ListPost (rDep xs) w) := by
  unfold rDep
  by_cases h : chkL xs = 0
  · rw [if_pos h]
    have hr := Right.of h
    have hc := fun W (hW : Row .i64 W a xs) => rasked_w a xs cap W hW hl
    rw [h] at hc
    obtain ⟨ns, hns⟩ : ∃ ns, nn xs = ns := ⟨_, rfl⟩
    rw [hns] at hr ⊢
    obtain ⟨h1, h2, h3, h5⟩ := hr
    clear hns h
    have hlen : xs.length = ns.length := by rw [h1, ints_length]
    rw [hlen] at hc ⊢
    rw [h1] at ha hc
    have hd := fun W (hW : Row .i64 W a (ints ns)) => rdepths_p a ns cap W hW h2 h3 (by omega)
    have HD : Hid ((depthsL ns).length = (ints (depthsL ns)).length) := Lib.hid (by rw [ints_length])
    clear h1 h3 hlen hl
    generalize depthsL ns = R at hd HD
    go_enter Try.func13, Try.ntmps13
    go_wp2_with (first | (go_at_call 30; refine (hc _ ha).mono ?_; rintro e w1 ⟨rfl, hb⟩; replace ha := ha.later hb) | (go_at_call 31; refine (hd _ ha).mono ?_; rintro e w2 ⟨B, rfl, hA, hBB, hb2⟩))
    go_light
    go_ret2
    exact ⟨some ⟨B, 0, none⟩, _, by rw [HD.out]; rfl, Blk.row hA, hb.trans (hb2.mono hb.size)⟩
  · rw [if_neg h]
    have hc := fun W (hW : Row .i64 W a xs) => rasked_w a xs cap W hW hl
    generalize chkL xs = c at h hc
    have h4 : (c != 0) = true := by simpa using h
    go_enter Try.func13, Try.ntmps13
    go_wp2_with ((go_at_call 30; refine (hc _ ha).mono ?_; rintro e w1 ⟨rfl, hb⟩))
    go_light
    go_ret2
    exact ⟨none, 0, rfl, .inl rfl, hb⟩

theorem any_snoc {D : List Nat} {i d : Nat} (h : D[i]? = some d) : (D.take (i + 1)).any (fun x => 11 < x) = ((D.take i).any (fun x => 11 < x) || decide (11 < d)) := by
  rw [List.take_add_one, h, List.any_append]
  simp
set_option maxRecDepth 100000 in
set_option maxHeartbeats 4000000 in
theorem rof_1 (a : Option Addr) (ns : List Nat) (cap : Nat) (w : World) (ha : Row .i64 w a (ints ns)) (h2 : ns.length ≤ 256) (h3 : ns.sum ≤ 1099511627776) (h5 : 2 ≤ (leaves 0 ns).length) (hc : ∀ W, Row .i64 W a (ints ns) → Calls Try.prog 30 #[.slice a ns.length cap] W fun e w' => e = .returned (.int .i64 0) ∧ Below W.heap.size W w') :
    Calls Try.prog 11 #[.slice a ns.length cap] w (ListPost (ints (ofL ns.sum ns), 0) w) := by
  obtain ⟨i0, hi, hz0, hz1, hz2⟩ := info_parts infoInt
  have hn2 : 2 ≤ ns.length := by have := leaves_le ns 0; omega
  have H3 := Lib.hid h3
  have H5 := Lib.hid h5
  clear h3 h5
  go_enter Try.func11, Try.ntmps11
  go_wp2_with (first | (go_at_call 30; refine (hc _ ha).mono ?_; rintro e w1 ⟨rfl, hb⟩; replace ha := ha.later hb) | (at_builtin; refine wpList_append_any _ rfl _ _ 22 rfl w1.heap.size 3 i0 (.int .i64 0) 8 Try.underlying22 hi hz0 hz1 hz2 rfl (.slice (some ⟨w1.heap.size, 0, none⟩) 0 0) 0 [] rfl (ownsRow_made w1 3) a ns.length cap ((ints ns).map (Value.int .i64)) rfl (by simp [ints]) (ha.later ((Below.refl _ _).alloc (Nat.le_refl _) _)).vals (ints_one _ _) (by unfold maxLen; omega) (by omega) (by simp) (by simp) ?_; intro v1 w2 hown1 hgrow1))
  rw [List.nil_append, Nat.zero_add] at hown1
  obtain ⟨g, gc, rfl, hg, hgl, hgc⟩ := own_some hown1 (by omega)
  have B1 : Below w.heap.size w w2 := by
    have hsz := hb.size
    refine ((hb.alloc hb.size _).grown hgrow1 (by simp; omega) (fun k hk => by simp [Value.ownBlock] at hk; omega))
  have S1 := hb.size
  have hgw : w.heap.size ≤ g := by omega
  have HG := Lib.hid hgw
  clear hb hgrow1 ha hn2 hgc hg hgw
  go_loopg [] ns.sum (fun k wr => ∃ ms : List Nat, k = ms.sum ∧ Hid (wr.ownsRow w1.heap.size 3 1 (.slice (some ⟨g, 0, none⟩) ns.length gc) ns.length ((ints ms).map (Value.int .i64))) ∧ Hid (ms.length = ns.length) ∧ Hid (ms.sum ≤ 1099511627776 ∧ 2 ≤ (leaves 0 ms).length) ∧ Hid (ofL ns.sum ns = ofL ms.sum ms) ∧ Below w.heap.size w wr)
  case atStart => exact ⟨ns, rfl, Lib.hid hown1, Lib.hid rfl, Lib.hid ⟨H3.out, H5.out⟩, Lib.hid rfl, B1⟩
  case round =>
    clear hown1 B1 hgl
    obtain ⟨ms, hgk, HO, HL, HS, HR, hB⟩ := hrel
    have hd := fun W (hW : Row .i64 W (some ⟨g, 0, none⟩) (ints ms)) => rdepths_p (some ⟨g, 0, none⟩) ms gc W hW (by rw [HL.out]; exact h2) HS.out.1 (by have := HS.out.2; omega)
    rw [HL.out] at hd
    have hrow : Row .i64 wr (some ⟨g, 0, none⟩) (ints ms) := Row.of_own_slice HO.out
    have HDL : Hid ((depthsL ms).length = ns.length) := Lib.hid ((depthsL_len (by have := HS.out.2; omega)).trans HL.out)
    obtain ⟨D, hD⟩ : ∃ D, depthsL ms = D := ⟨_, rfl⟩
    rw [hD] at hd HDL
    have HD := Lib.hid hD
    have HGK := Lib.hid hgk
    clear hD hgk
    go_wp2_with (go_at_call 31; refine (hd _ hrow).mono ?_; rintro e w3 ⟨B, rfl, hA, hBB, hb3⟩; rw [HDL.out])
    have HO3 := Lib.hid (ownsRow_later HO.out hb3)
    have B3 : Below w.heap.size w w3 := hB.trans (hb3.mono hB.size)
    have hBl : B < w3.heap.size := Blk.lt hA
    clear HO hrow hd hb3 hB
    go_loopg [7, 8] ns.length (fun k vh v wi => ∃ i : Nat, v = .int .i64 (i : Int) ∧ vh = .bool ((D.take i).any (fun x => 11 < x)) ∧ i ≤ ns.length ∧ k = ns.length - i ∧ wi = w3)
    case atStart => exact ⟨0, rfl, by simp, Nat.zero_le _, rfl, rfl⟩
    case round =>
      obtain ⟨i, rfl, rfl, hi, hgi, rfl⟩ := hrel
      have HGI := Lib.hid hgi
      clear hgi
      by_cases hlt : i < ns.length
      · have hlt2 : i < D.length := by rw [HDL.out]; exact hlt
        obtain ⟨d, hdd⟩ : ∃ d, D[i]? = some d := ⟨_, List.getElem?_eq_getElem hlt2⟩
        have c1 : wr.cell? ⟨B, i, none⟩ = some (.int .i64 (d : Int)) := by
          have := Blk.cell hA i
          rw [this]
          simp [ints, hdd]
        have hany := any_snoc hdd
        have i0 : (0 : Int) ≤ (i : Int) := by omega
        have i1 : (i : Int) < (ns.length : Int) := by omega
        have hd2 : decide (11 < d) = decide ((11 : Int) < (d : Int)) := by rw [decide_eq_decide]; omega
        rw [hd2] at hany
        have HANY := Lib.hid hany
        clear hdd hany hd2
        generalize (D.take i).any (fun x => 11 < x) = b at HANY
        cases b
        · have HANY2 : Hid ((D.take (i + 1)).any (fun x => 11 < x) = decide ((11 : Int) < (d : Int))) := Lib.hid (by rw [HANY.out]; rfl)
          by_cases h11 : (11 : Int) < (d : Int)
          · go_wp2
            go_roundg (ns.length - (i + 1))
            case rel => exact ⟨i + 1, by go_num, by rw [HANY2.out, decide_eq_true h11], by omega, rfl, rfl⟩
            case measure => have := HGI.out; omega
          · go_wp2
            go_roundg (ns.length - (i + 1))
            case rel => exact ⟨i + 1, by go_num, by rw [HANY2.out, decide_eq_false (by omega)], by omega, rfl, rfl⟩
            case measure => have := HGI.out; omega
        · have HANY2 : Hid ((D.take (i + 1)).any (fun x => 11 < x) = true) := Lib.hid (by rw [HANY.out]; rfl)
          go_wp2
          go_roundg (ns.length - (i + 1))
          case rel => exact ⟨i + 1, by go_num, by rw [HANY2.out], by omega, rfl, rfl⟩
          case measure => have := HGI.out; omega
      · have hall : (D.take i).any (fun x => 11 < x) = D.any (fun x => 11 < x) := by rw [List.take_of_length_le (by have := HDL.out; omega)]
        rw [hall]
        by_cases hany : D.any (fun x => 11 < x) = true
        · rw [hany]
          have HAny : Hid ((depthsL ms).any (fun x => 11 < x) = true) := Lib.hid (by rw [HD.out]; exact hany)
          have HMS : Hid (ms.sum ≤ 1099511627776) := Lib.hid HS.out.1
          clear hall hany
          go_wp2
          obtain ⟨V, hV⟩ : ∃ V, V = wr := ⟨_, rfl⟩
          subst hV
          clear hA hBB hBl
          go_loopg [9] ns.length (fun k v wi => ∃ i : Nat, v = .int .i64 (i : Int) ∧ i ≤ ns.length ∧ k = ns.length - i ∧ Hid (wi.ownsRow w1.heap.size 3 1 (.slice (some ⟨g, 0, none⟩) ns.length gc) ns.length ((ints (hpre ms i)).map (Value.int .i64))) ∧ Below w.heap.size w wi)
          case atStart => exact ⟨0, rfl, Nat.zero_le _, rfl, Lib.hid (by rw [hpre_zero]; exact HO3.out), B3⟩
          case round =>
            clear B3
            obtain ⟨j, rfl, hj, hgj, HOj, hBj⟩ := hrel
            have HGJ := Lib.hid hgj
            clear hgj
            by_cases hlt : j < ns.length
            · have hlt2 : j < ms.length := by rw [HL.out]; exact hlt
              obtain ⟨c, hcc⟩ : ∃ c, ms[j] = c := ⟨_, rfl⟩
              have hat : ((ints (hpre ms j)).map (Value.int .i64))[j]? = some (.int .i64 (c : Int)) := by
                simp [ints, hpre_at hlt2, hcc]
              obtain ⟨c1, f1⟩ := own_cell HOj.out hat
              have hcs : c ≤ 1099511627776 := Nat.le_trans (by rw [← hcc]; exact mem_le_sum (List.getElem_mem hlt2)) HMS.out
              have HS2 : Hid ((hpre ms j).set j (c - c / 2) = hpre ms (j + 1)) := Lib.hid (by rw [← hcc]; exact hpre_set hlt2)
              clear hat hcc
              have j0 : (0 : Int) ≤ (j : Int) := by omega
              have j1 : (j : Int) < (ns.length : Int) := by omega
              have k0 : (0 : Int) ≤ (c : Int) := by omega
              have k1 : (c : Int) ≤ 1099511627776 := by omega
              go_wp2
              go_roundg (ns.length - (j + 1))
              case rel =>
                refine ⟨j + 1, by go_num, by omega, rfl, ?_, ?_⟩
                · have p1 := own_put HOj.out j (.int .i64 (((c : Int) + 1) / 2))
                  have e1 : ((ints (hpre ms j)).map (Value.int .i64)).set j (.int .i64 (((c : Int) + 1) / 2)) = (ints (hpre ms (j + 1))).map (Value.int .i64) := by
                    rw [← HS2.out]
                    have e2 : ((c - c / 2 : Nat) : Int) = ((c : Int) + 1) / 2 := by omega
                    unfold ints
                    rw [List.map_set, List.map_set, e2]
                  rw [e1] at p1
                  exact Lib.hid p1
                · exact hBj.setCell (by have := HG.out; simpa using this) _
              case measure => have := HGJ.out; omega
            · have e : j = ms.length := by have := HL.out; omega
              have HO2 : Hid (wr.ownsRow w1.heap.size 3 1 (.slice (some ⟨g, 0, none⟩) ns.length gc) ns.length ((ints (halve ms)).map (Value.int .i64))) := Lib.hid (by
                have := HOj.out
                rw [e, hpre_all] at this
                exact this)
              have HF2 := Lib.hid (of_falls (by have := HS.out.2; omega) (by rw [HL.out]; exact h2) HAny.out)
              have HR2 := Lib.hid (HR.out.trans (of_next (by have := HS.out.2; omega) (by rw [HL.out]; exact h2) HAny.out))
              have HS3 : Hid ((halve ms).sum ≤ 1099511627776 ∧ 2 ≤ (leaves 0 (halve ms)).length) := Lib.hid ⟨by have := HF2.out; have := HS.out.1; omega, by rw [halve_leaves]; exact HS.out.2⟩
              have HL2 : Hid ((halve ms).length = ns.length) := Lib.hid (by rw [← HL.out]; simp [halve])
              clear e
              go_wp2
              go_roundg (halve ms).sum
              case rel => exact ⟨halve ms, rfl, HO2, HL2, HS3, HR2, hBj⟩
              case measure => have := HGK.out; have := HF2.out; omega
        · have hany2 : D.any (fun x => 11 < x) = false := by simpa using hany
          rw [hany2]
          have HLow : Hid (ofL ns.sum ns = D) := Lib.hid (by
            rw [HR.out, of_low (by
              rw [HD.out]
              intro x hx
              have := List.any_eq_false.1 hany2 x hx
              simpa using this), HD.out])
          clear hall hany hany2
          go_wp2
          (try rw [Exit.noGoto_ret])
          go_ret2
          exact ⟨some ⟨B, 0, none⟩, ns.length, by rw [HLow.out, ints_length, HDL.out]; rfl, by rw [HLow.out]; exact Blk.row hA, B3⟩
theorem rof_w (a : Option Addr) (xs : List Int) (cap : Nat) (w : World) (ha : Row .i64 w a xs) (hl : xs.length ≤ 9223372036854775807) : Calls Try.prog 11 #[.slice a xs.length cap] w (ListPost (rLen xs) w) := by
  unfold rLen
  by_cases h : chkL xs = 0
  · rw [if_pos h]
    have hr := Right.of h
    have hc := fun W (hW : Row .i64 W a xs) => rasked_w a xs cap W hW hl
    rw [h] at hc
    obtain ⟨ns, hns⟩ : ∃ ns, nn xs = ns := ⟨_, rfl⟩
    rw [hns] at hr ⊢
    obtain ⟨h1, h2, h3, h5⟩ := hr
    have hlen : xs.length = ns.length := by rw [h1, ints_length]
    rw [hlen] at hc ⊢
    rw [h1] at ha hc
    exact rof_1 a ns cap w ha h2 h3 h5 hc
  · rw [if_neg h]
    have hc := fun W (hW : Row .i64 W a xs) => rasked_w a xs cap W hW hl
    generalize chkL xs = c at h hc
    have h4 : (c != 0) = true := by simpa using h
    go_enter Try.func11, Try.ntmps11
    go_wp2_with ((go_at_call 30; refine (hc _ ha).mono ?_; rintro e w1 ⟨rfl, hb⟩))
    go_light
    (try rw [Exit.noGoto_ret])
    go_ret2
    exact ⟨none, 0, rfl, .inl rfl, hb⟩
end Go.Proofs.Ytmfgkimbehkdeaa
