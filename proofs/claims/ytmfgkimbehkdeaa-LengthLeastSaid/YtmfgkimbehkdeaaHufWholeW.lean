/-
  LengthWhole, walked.
-/
import Derived.Test.YtmfgkimbehkdeaaRows
import Derived.Test.YtmfgkimbehkdeaaHufWholeP
import Derived.Test.YtmfgkimbehkdeaaHufKnown
import Derived.Test.YtmfgkimbehkdeaaGBase
import Derived.Deep.Light
import Derived.Shelf.Abstract
import Derived.Shelf.RegionOpen
import Derived.OwnWalkIn
import Derived.TacticsInMore
import Derived.LoopNIn
import Derived.LoopIn
import Derived.IntWalk
import Derived.Outline
namespace Go.Proofs.Ytmfgkimbehkdeaa
open Go.RowKit
set_option linter.unusedSimpArgs false
set_option linter.unusedVariables false
attribute [local go_sem] Oper.semAt_some

theorem ints_at' {ns : List Nat} {k v : Nat} (h : ns[k]? = some v) : (ints ns).getD k 0 = (v : Int) := by
  simp [ints, List.getD_eq_getElem?_getD, h]
set_option maxRecDepth 100000 in
set_option maxHeartbeats 8000000 in
theorem whole_1 (a : Option Addr) (xs : List Int) (cap : Nat) (L l d : List Nat) (w : World) (ha : Row .i64 w a xs) (hl : xs.length ≤ 9223372036854775807) (hL : mdN xs = L) (hM : Made L) (hW : Whole L l d) :
    Calls Try.prog 6 #[.slice a xs.length cap] w fun e w' => e = .returned (.bool true) ∧ Below w.heap.size w w' := by
  obtain ⟨inf, hinf, hz0, hz1, hz2⟩ := info_parts infoInt
  have qm := fun W (hr : Row .i64 W a xs) => made_w a xs cap W hr hl
  rw [hL] at qm
  have lL := ints_length L
  have hlen := hM.len
  have hpos := hM.pos
  have hl1 := hW.len1
  have hl2 := hW.len2
  have HW := Lib.hid hW
  have HM := Lib.hid hM
  obtain ⟨n, hn⟩ : ∃ n, L.length = n := ⟨_, rfl⟩
  rw [hn] at hlen hpos hl1 hl2 lL
  have qof := fun p c W (hr : Row .i64 W p (ints L)) => len_x p (ints L) n c W lL.symm hr (by omega) (ints l) n 0 hW.ofs (by rw [ints_length]; exact hl1.symm)
  have qde := fun p c W (hr : Row .i64 W p (ints L)) => dep_x p (ints L) n c W lL.symm hr (by omega) (ints d) n 0 hW.deps (by rw [ints_length]; exact hl2.symm)
  have qck := fun p c W (hr : Row .i64 W p (ints l)) => chk_x p (ints l) n c W (by rw [ints_length]; exact hl1.symm) hr (by omega) 0 hW.chk
  have HN := Lib.hid hn
  have HL1 := Lib.hid hl1
  have HL2 := Lib.hid hl2
  have HLL := Lib.hid lL
  clear hL hM hW hn hl1 hl2
  go_enter Try.func6, Try.ntmps6
  go_wp2_with (first | (go_at_call 5; refine (known_w _).mono ?_; rintro e w1 ⟨rfl, hb⟩; have hsz := hb.size; (try simp at hsz)) | (go_at_call 25; (with_reducible refine (qm _ (ha.later (by repeat' (first | with_reducible exact Below.refl _ _ | with_reducible refine Below.drew ?_ | with_reducible refine below_drewN ?_ _ | with_reducible refine Below.alloc ?_ (by first | omega | (simp <;> omega)) _ | with_reducible refine Below.setCell ?_ (by first | omega | (dsimp only; omega) | (simp <;> omega)) _ | with_reducible refine Below.trans ?_ (Below.mono (by assumption) (by first | omega | (simp <;> omega))))))).mono ?_); rintro e w1 ⟨pA, cA, rfl, hrA, hb⟩; rw [HLL.out]; have hsz := hb.size; (try simp at hsz)) | (go_at_call 10; refine (qof _ _ _ (hrA.later (by repeat' (first | with_reducible exact Below.refl _ _ | with_reducible refine Below.drew ?_ | with_reducible refine below_drewN ?_ _ | with_reducible refine Below.alloc ?_ (by first | omega | (simp <;> omega)) _ | with_reducible refine Below.setCell ?_ (by first | omega | (dsimp only; omega) | (simp <;> omega)) _ | with_reducible refine Below.trans ?_ (Below.mono (by assumption) (by first | omega | (simp <;> omega))))))).mono ?_; rintro e w1 ⟨pL, cL, rfl, hrL, hb⟩; have hsz := hb.size; (try simp at hsz)) | (go_at_call 12; refine (qde _ _ _ (hrA.later (by repeat' (first | with_reducible exact Below.refl _ _ | with_reducible refine Below.drew ?_ | with_reducible refine below_drewN ?_ _ | with_reducible refine Below.alloc ?_ (by first | omega | (simp <;> omega)) _ | with_reducible refine Below.setCell ?_ (by first | omega | (dsimp only; omega) | (simp <;> omega)) _ | with_reducible refine Below.trans ?_ (Below.mono (by assumption) (by first | omega | (simp <;> omega))))))).mono ?_; rintro e w1 ⟨pD, cD, rfl, hrD, hb⟩; have hsz := hb.size; (try simp at hsz)) | (go_at_call 21; refine (qck _ _ _ (hrL.later (by repeat' (first | with_reducible exact Below.refl _ _ | with_reducible refine Below.drew ?_ | with_reducible refine below_drewN ?_ _ | with_reducible refine Below.alloc ?_ (by first | omega | (simp <;> omega)) _ | with_reducible refine Below.setCell ?_ (by first | omega | (dsimp only; omega) | (simp <;> omega)) _ | with_reducible refine Below.trans ?_ (Below.mono (by assumption) (by first | omega | (simp <;> omega))))))).mono ?_; rintro e w1 ⟨rfl, hb⟩; have hsz := hb.size; (try simp at hsz)))
  have rA := hrA.later (w' := w1) (by repeat' (first | with_reducible exact Below.refl _ _ | with_reducible refine Below.drew ?_ | with_reducible refine below_drewN ?_ _ | with_reducible refine Below.alloc ?_ (by first | omega | (simp <;> omega)) _ | with_reducible refine Below.setCell ?_ (by first | omega | (dsimp only; omega) | (simp <;> omega)) _ | with_reducible refine Below.trans ?_ (Below.mono (by assumption) (by first | omega | (simp <;> omega)))))
  have rL := hrL.later (w' := w1) (by repeat' (first | with_reducible exact Below.refl _ _ | with_reducible refine Below.drew ?_ | with_reducible refine below_drewN ?_ _ | with_reducible refine Below.alloc ?_ (by first | omega | (simp <;> omega)) _ | with_reducible refine Below.setCell ?_ (by first | omega | (dsimp only; omega) | (simp <;> omega)) _ | with_reducible refine Below.trans ?_ (Below.mono (by assumption) (by first | omega | (simp <;> omega)))))
  have rD := hrD.later (w' := w1) (by repeat' (first | with_reducible exact Below.refl _ _ | with_reducible refine Below.drew ?_ | with_reducible refine below_drewN ?_ _ | with_reducible refine Below.alloc ?_ (by first | omega | (simp <;> omega)) _ | with_reducible refine Below.setCell ?_ (by first | omega | (dsimp only; omega) | (simp <;> omega)) _ | with_reducible refine Below.trans ?_ (Below.mono (by assumption) (by first | omega | (simp <;> omega)))))
  have bV : Below w.heap.size w w1 := (by repeat' (first | with_reducible exact Below.refl _ _ | with_reducible refine Below.drew ?_ | with_reducible refine below_drewN ?_ _ | with_reducible refine Below.alloc ?_ (by first | omega | (simp <;> omega)) _ | with_reducible refine Below.setCell ?_ (by first | omega | (dsimp only; omega) | (simp <;> omega)) _ | with_reducible refine Below.trans ?_ (Below.mono (by assumption) (by first | omega | (simp <;> omega)))))
  have hbv := bV.size
  obtain ⟨bA, oA, rfl, bA_lt, hAc⟩ := rA.at (i := 0) (by rw [ints_length]; have := HN.out; omega)
  obtain ⟨bL, oL, rfl, bL_lt, hLc⟩ := rL.at (i := 0) (by rw [ints_length]; have := HL1.out; omega)
  obtain ⟨bD, oD, rfl, bD_lt, hDc⟩ := rD.at (i := 0) (by rw [ints_length]; have := HL2.out; omega)
  have HA := Lib.hid hAc
  have HL := Lib.hid hLc
  have HD := Lib.hid hDc
  obtain ⟨V0, hV0⟩ : ∃ V0, V0 = w1 := ⟨_, rfl⟩
  subst hV0
  have B00 : Below V0.heap.size V0 V0 := Below.refl _ _
  clear hAc hLc hDc hrA hrL hrD qm qof qck
  go_loopw [9, 10] (fun vh vi wr => ∃ (i : Nat) (hg : Bool), vi = .int .i64 (i : Int) ∧ vh = .bool hg ∧ i ≤ n ∧ Hid (hg = (d.take i).any (fun x => decide (11 < x))) ∧ Below V0.heap.size V0 wr) (fun _ vi _ => n - (intOf vi).toNat)
  case atStart => exact ⟨0, false, rfl, rfl, Nat.zero_le _, Lib.hid (by simp), B00⟩
  case round =>
    clear B00
    obtain ⟨i, hg, rfl, rfl, hi, HG, hB⟩ := hrel
    by_cases hlt : i < n
    · have hltL : i < L.length := by have := HN.out; omega
      have hltl : i < l.length := by have := HL1.out; omega
      have hltd : i < d.length := by have := HL2.out; omega
      have i0 : (0 : Int) ≤ (i : Int) := by omega
      have i1 : (i : Int) < (n : Int) := by omega
      obtain ⟨c, hc⟩ : ∃ x, L[i]? = some x := ⟨_, List.getElem?_eq_getElem (by omega)⟩
      have cc : wr.cell? ⟨bA, oA + i, none⟩ = some (.int .i64 (c : Int)) := by
        have := HA.out i (by rw [ints_length]; omega)
        rw [ints_at' hc] at this
        exact (hB.cell (p := ⟨bA, oA + i, none⟩) bA_lt).trans this
      have Hc := Lib.hid hc
      clear hc
      obtain ⟨e, he⟩ : ∃ x, l[i]? = some x := ⟨_, List.getElem?_eq_getElem (by omega)⟩
      have ce : wr.cell? ⟨bL, oL + i, none⟩ = some (.int .i64 (e : Int)) := by
        have := HL.out i (by rw [ints_length]; omega)
        rw [ints_at' he] at this
        exact (hB.cell (p := ⟨bL, oL + i, none⟩) bL_lt).trans this
      have He := Lib.hid he
      clear he
      obtain ⟨t, ht⟩ : ∃ x, d[i]? = some x := ⟨_, List.getElem?_eq_getElem (by omega)⟩
      have ct : wr.cell? ⟨bD, oD + i, none⟩ = some (.int .i64 (t : Int)) := by
        have := HD.out i (by rw [ints_length]; omega)
        rw [ints_at' ht] at this
        exact (hB.cell (p := ⟨bD, oD + i, none⟩) bD_lt).trans this
      have Ht := Lib.hid ht
      clear ht
      have hsame := HW.out.same i c e Hc.out He.out
      have HG2 := Lib.hid (show (d.take (i + 1)).any (fun x => decide (11 < x)) = (hg || decide (11 < t)) by
        rw [HG.out, List.take_add_one, Ht.out]
        simp)
      clear hltL hltl hltd
      by_cases h0 : 0 < c
      · have p0 : (0 : Int) < (c : Int) := by omega
        have p1 : (0 : Int) < (e : Int) := by have := hsame.1 h0; omega
        have p2 : decide (0 < c) = true := decide_eq_true h0
        have p3 : decide (0 < e) = true := decide_eq_true (hsame.1 h0)
        clear hsame
        cases hg
        · by_cases h11 : 11 < t
          · have t0 : (11 : Int) < (t : Int) := by omega
            have HG3 : Hid (true = (d.take (i + 1)).any (fun x => decide (11 < x))) := Lib.hid (by rw [HG2.out]; simp [h11])
            go_wp2; go_quiet (fail); go_wp2; go_roundw; (case rel => exact ⟨i + 1, _, by go_num, rfl, by omega, HG3, below_drewN hB _⟩); (case measure => simp [intOf]; omega)
          · have t0 : decide ((11 : Int) < (t : Int)) = false := decide_eq_false (by omega)
            have HG3 : Hid (false = (d.take (i + 1)).any (fun x => decide (11 < x))) := Lib.hid (by rw [HG2.out]; simp [h11])
            go_wp2; go_quiet (fail); go_wp2; go_roundw; (case rel => exact ⟨i + 1, _, by go_num, rfl, by omega, HG3, below_drewN hB _⟩); (case measure => simp [intOf]; omega)
        · have HG3 : Hid (true = (d.take (i + 1)).any (fun x => decide (11 < x))) := Lib.hid (by rw [HG2.out]; rfl)
          go_wp2; go_quiet (fail); go_wp2; go_roundw; (case rel => exact ⟨i + 1, _, by go_num, rfl, by omega, HG3, below_drewN hB _⟩); (case measure => simp [intOf]; omega)
      · have p0 : ¬ (0 : Int) < (c : Int) := by omega
        have p1 : ¬ (0 : Int) < (e : Int) := by have : ¬ 0 < e := fun h => h0 (hsame.2 h)
                                                omega
        have p2 : decide (0 < c) = false := decide_eq_false h0
        have p3 : decide (0 < e) = false := decide_eq_false (fun h => h0 (hsame.2 h))
        clear hsame
        cases hg
        · by_cases h11 : 11 < t
          · have t0 : (11 : Int) < (t : Int) := by omega
            have HG3 : Hid (true = (d.take (i + 1)).any (fun x => decide (11 < x))) := Lib.hid (by rw [HG2.out]; simp [h11])
            go_wp2; go_quiet (fail); go_wp2; go_roundw; (case rel => exact ⟨i + 1, _, by go_num, rfl, by omega, HG3, below_drewN hB _⟩); (case measure => simp [intOf]; omega)
          · have t0 : decide ((11 : Int) < (t : Int)) = false := decide_eq_false (by omega)
            have HG3 : Hid (false = (d.take (i + 1)).any (fun x => decide (11 < x))) := Lib.hid (by rw [HG2.out]; simp [h11])
            go_wp2; go_quiet (fail); go_wp2; go_roundw; (case rel => exact ⟨i + 1, _, by go_num, rfl, by omega, HG3, below_drewN hB _⟩); (case measure => simp [intOf]; omega)
        · have HG3 : Hid (true = (d.take (i + 1)).any (fun x => decide (11 < x))) := Lib.hid (by rw [HG2.out]; rfl)
          go_wp2; go_quiet (fail); go_wp2; go_roundw; (case rel => exact ⟨i + 1, _, by go_num, rfl, by omega, HG3, below_drewN hB _⟩); (case measure => simp [intOf]; omega)
    · have hany : hg = d.any (fun x => decide (11 < x)) := by
        have := HG.out
        rwa [List.take_of_length_le (by have := HL2.out; omega)] at this
      have HANY := Lib.hid hany
      clear hany HG
      have hbw : Below w.heap.size w wr := bV.trans (hB.mono hbv)
      have BST := hB
      cases hg
      · have HLOW : Hid (∀ x ∈ d, x ≤ 11) := Lib.hid (by
          intro x hx
          have := HANY.out
          rcases Nat.lt_or_ge 11 x with h | h
          · have h2 : d.any (fun x => decide (11 < x)) = true := List.any_eq_true.2 ⟨x, hx, by simpa using h⟩
            rw [h2] at this
            simp at this
          · exact h)
        have HEQ := Lib.hid (HW.out.low HLOW.out)
        have rL2 := rL.later hB
        have rD2 := rD.later hB
        have HLD : Hid (n = (ints d).length) := Lib.hid (by rw [ints_length]; exact HL2.out.symm)
        rw [HEQ.out] at rL2
        have hin : ¬ (i : Int) < (n : Int) := by omega
        clear hB
        go_wp2_with ((go_at_call 14; refine (kn_same _ _ (ints d) n _ _ _ (rL2.later (by repeat' (first | with_reducible exact Below.refl _ _ | with_reducible refine Below.drew ?_ | with_reducible refine below_drewN ?_ _ | with_reducible refine Below.alloc ?_ (by first | omega | (simp <;> omega)) _ | with_reducible refine Below.setCell ?_ (by first | omega | (dsimp only; omega) | (simp <;> omega)) _ | with_reducible refine Below.trans ?_ (Below.mono (by assumption) (by first | omega | (simp <;> omega)))))) (rD2.later (by repeat' (first | with_reducible exact Below.refl _ _ | with_reducible refine Below.drew ?_ | with_reducible refine below_drewN ?_ _ | with_reducible refine Below.alloc ?_ (by first | omega | (simp <;> omega)) _ | with_reducible refine Below.setCell ?_ (by first | omega | (dsimp only; omega) | (simp <;> omega)) _ | with_reducible refine Below.trans ?_ (Below.mono (by assumption) (by first | omega | (simp <;> omega)))))) HLD.out (by omega)).mono ?_; rintro e w1 ⟨rfl, hb⟩))
        replace BST := BST.trans (hb.mono BST.size)
        clear hb rL2 rD2 HLD hin hlt hi
        go_loopw [11, 12] (fun vt vi wr => ∃ i : Nat, vi = .int .i64 (i : Int) ∧ i ≤ n ∧ Hid (wr.ownsRow V0.heap.size 3 1 vt i ((ints (dbl2 (L.take i))).map (Value.int .i64))) ∧ Below V0.heap.size V0 wr) (fun _ vi _ => n - (intOf vi).toNat)
        case atStart => exact ⟨0, rfl, Nat.zero_le _, Lib.hid ⟨rfl, .inl ⟨rfl, rfl⟩⟩, BST⟩
        case round =>
          clear BST
          obtain ⟨i, rfl, hi, HO, hB⟩ := hrel
          have hszr := hB.size
          by_cases hlt : i < n
          · have hltL : i < L.length := by have := HN.out; omega
            have i0 : (0 : Int) ≤ (i : Int) := by omega
            have i1 : (i : Int) < (n : Int) := by omega
            obtain ⟨c, hc⟩ : ∃ x, L[i]? = some x := ⟨_, List.getElem?_eq_getElem (by omega)⟩
            have cc : wr.cell? ⟨bA, oA + i, none⟩ = some (.int .i64 (c : Int)) := by
              have := HA.out i (by rw [ints_length]; omega)
              rw [ints_at' hc] at this
              exact (hB.cell (p := ⟨bA, oA + i, none⟩) bA_lt).trans this
            have Hc := Lib.hid hc
            clear hc
            have hc6 : c ≤ 65536 := HM.out.le c (List.mem_of_getElem? Hc.out)
            have cc0 : (0 : Int) ≤ 2 * (c : Int) := by omega
            have cc1 : 2 * (c : Int) ≤ 131072 := by omega
            have HS := Lib.hid (show (ints (dbl2 (L.take (i + 1)))).map (Value.int .i64) = (ints (dbl2 (L.take i))).map (Value.int .i64) ++ [.int .i64 (2 * (c : Int))] by
              rw [List.take_add_one, Hc.out]
              simp [ints, dbl2])
            go_wp2_with ((at_builtin; refine wpList_append_own _ rfl _ _ 22 rfl V0.heap.size 3 inf (.int .i64 0) 1 8 Try.underlying22 hinf hz0 hz1 hz2 rfl (by decide) _ _ _ rfl (HO.out.alloc _) ⟨wr.heap.size, 0, none⟩ 1 1 [.int .i64 (2 * (c : Int))] rfl rfl (cell_one_new _ _ _) (ints_oneCell .i64 [2 * (c : Int)]) (by unfold maxLen; omega) (by omega) (by simp; omega) ?_; intro v2 w2 ho2 hg2 hn2))
            have B2 : Below V0.heap.size V0 w2 := (hB.alloc (by omega) _).grown hg2 (by simp; omega) (own_base_o HO.out)
            have HO2 := Lib.hid ho2
            clear ho2 hg2 hn2 cc0 cc1 cc hltL HO hB
            obtain ⟨V, hV⟩ : ∃ V, V = w2 := ⟨_, rfl⟩
            subst hV
            have BVV : Below V.heap.size V V := Below.refl _ _
            have hszV := B2.size
            go_loopw [13] (fun vk wr => ∃ k : Nat, vk = .int .i64 (k : Int) ∧ k ≤ n ∧ Below V.heap.size V wr) (fun vk _ => n - (intOf vk).toNat)
            case atStart => exact ⟨0, rfl, Nat.zero_le _, BVV⟩
            case round =>
              clear BVV
              obtain ⟨k, rfl, hk, hBk⟩ := hrel
              have hB := B2.trans (hBk.mono hszV)
              by_cases hltk : k < n
              · have hltL : k < L.length := by have := HN.out; omega
                have hltl : k < l.length := by have := HL1.out; omega
                have hltLi : i < L.length := by have := HN.out; omega
                have hltli : i < l.length := by have := HL1.out; omega
                have k0 : (0 : Int) ≤ (k : Int) := by omega
                have k1 : (k : Int) < (n : Int) := by omega
                obtain ⟨ci, hci⟩ : ∃ x, L[i]? = some x := ⟨_, List.getElem?_eq_getElem (by omega)⟩
                have cci : wr.cell? ⟨bA, oA + i, none⟩ = some (.int .i64 (ci : Int)) := by
                  have := HA.out i (by rw [ints_length]; omega)
                  rw [ints_at' hci] at this
                  exact (hB.cell (p := ⟨bA, oA + i, none⟩) bA_lt).trans this
                have Hci := Lib.hid hci
                clear hci
                obtain ⟨ck, hck⟩ : ∃ x, L[k]? = some x := ⟨_, List.getElem?_eq_getElem (by omega)⟩
                have cck : wr.cell? ⟨bA, oA + k, none⟩ = some (.int .i64 (ck : Int)) := by
                  have := HA.out k (by rw [ints_length]; omega)
                  rw [ints_at' hck] at this
                  exact (hB.cell (p := ⟨bA, oA + k, none⟩) bA_lt).trans this
                have Hck := Lib.hid hck
                clear hck
                obtain ⟨di, hdi⟩ : ∃ x, l[i]? = some x := ⟨_, List.getElem?_eq_getElem (by omega)⟩
                have cdi : wr.cell? ⟨bL, oL + i, none⟩ = some (.int .i64 (di : Int)) := by
                  have := HL.out i (by rw [ints_length]; omega)
                  rw [ints_at' hdi] at this
                  exact (hB.cell (p := ⟨bL, oL + i, none⟩) bL_lt).trans this
                have Hdi := Lib.hid hdi
                clear hdi
                obtain ⟨dk, hdk⟩ : ∃ x, l[k]? = some x := ⟨_, List.getElem?_eq_getElem (by omega)⟩
                have cdk : wr.cell? ⟨bL, oL + k, none⟩ = some (.int .i64 (dk : Int)) := by
                  have := HL.out k (by rw [ints_length]; omega)
                  rw [ints_at' hdk] at this
                  exact (hB.cell (p := ⟨bL, oL + k, none⟩) bL_lt).trans this
                have Hdk := Lib.hid hdk
                clear hdk
                have hmono := HW.out.mono HLOW.out i k ci ck di dk Hci.out Hck.out Hdi.out Hdk.out
                clear hltL hltl hltLi hltli hB
                by_cases m1 : ck < ci
                · by_cases m2 : 0 < ck
                  · have m3 := hmono m2 m1
                    clear hmono
                    have f1 : decide (ck < ci) = true := decide_eq_true m1; have f2 : decide (0 < ck) = true := decide_eq_true m2; have f3 : decide (dk < di) = false := decide_eq_false (by omega); have g1 : (ck : Int) < (ci : Int) := (by omega); have g2 : (0 : Int) < (ck : Int) := (by omega); have g3 : ¬ (dk : Int) < (di : Int) := (by omega)
                    go_wp2
                    go_quiet (fail)
                    go_wp2
                    go_roundw
                    case rel => exact ⟨k + 1, by go_num, by omega, below_drewN hBk _⟩
                    case measure => simp [intOf]; omega
                  · clear hmono
                    have f1 : decide (ck < ci) = true := decide_eq_true m1; have f2 : decide (0 < ck) = false := decide_eq_false m2; have g1 : (ck : Int) < (ci : Int) := (by omega); have g2 : ¬ (0 : Int) < (ck : Int) := (by omega)
                    go_wp2
                    go_quiet (fail)
                    go_wp2
                    go_roundw
                    case rel => exact ⟨k + 1, by go_num, by omega, below_drewN hBk _⟩
                    case measure => simp [intOf]; omega
                · clear hmono
                  have f1 : decide (ck < ci) = false := decide_eq_false m1; have g1 : ¬ (ck : Int) < (ci : Int) := (by omega)
                  go_wp2
                  go_quiet (fail)
                  go_wp2
                  go_roundw
                  case rel => exact ⟨k + 1, by go_num, by omega, below_drewN hBk _⟩
                  case measure => simp [intOf]; omega
              · have k1 : ¬ (k : Int) < (n : Int) := by omega
                go_wp2
                go_roundw
                case rel => exact ⟨i + 1, by go_num, by omega, by rw [HS.out]; exact Lib.hid (ownsRow_later HO2.out hBk), hB⟩
                case measure => simp [intOf]; omega
          · have e : i = n := by omega
            subst e
            have HOF : Hid (wr.ownsRow V0.heap.size 3 1 _ i ((ints (dbl2 L)).map (Value.int .i64))) := Lib.hid (by
              have := HO.out
              rwa [List.take_of_length_le (by have := HN.out; omega)] at this)
            obtain ⟨gt, gtc, rfl, _, _, _⟩ := own_some HOF.out (by omega)
            have rT : Row .i64 wr (some ⟨gt, 0, none⟩) (ints (dbl2 L)) := Row.of_own_slice HOF.out
            have rD2 := rD.later hB
            have hbw2 : Below w.heap.size w wr := bV.trans (hB.mono hbv)
            have hbs2 := hbw2.size
            have qd2 := fun p c W (hr : Row .i64 W p (ints (dbl2 L))) => dep_x p (ints (dbl2 L)) i c W (by rw [ints_length]; have := HN.out; simp [dbl2]; omega) hr (by omega) (ints d) i 0 HW.out.twice (by rw [ints_length]; exact HL2.out.symm)
            have HLD : Hid (i = (ints d).length) := Lib.hid (by rw [ints_length]; exact HL2.out.symm)
            clear bV hB rA rL rD hbw HOF HO qde
            go_wp2_with (first | (go_at_call 12; refine (qd2 _ _ _ (rT.later (by repeat' (first | with_reducible exact Below.refl _ _ | with_reducible refine Below.drew ?_ | with_reducible refine below_drewN ?_ _ | with_reducible refine Below.alloc ?_ (by first | omega | (simp <;> omega)) _ | with_reducible refine Below.setCell ?_ (by first | omega | (dsimp only; omega) | (simp <;> omega)) _ | with_reducible refine Below.trans ?_ (Below.mono (by assumption) (by first | omega | (simp <;> omega))))))).mono ?_; rintro e w1 ⟨pM, cM, rfl, hrM, hb⟩; have hsz := hb.size; (try simp at hsz)) | (go_at_call 14; refine (kn_same _ _ (ints d) i _ _ _ (hrM.later (by repeat' (first | with_reducible exact Below.refl _ _ | with_reducible refine Below.drew ?_ | with_reducible refine below_drewN ?_ _ | with_reducible refine Below.alloc ?_ (by first | omega | (simp <;> omega)) _ | with_reducible refine Below.setCell ?_ (by first | omega | (dsimp only; omega) | (simp <;> omega)) _ | with_reducible refine Below.trans ?_ (Below.mono (by assumption) (by first | omega | (simp <;> omega)))))) (rD2.later (by repeat' (first | with_reducible exact Below.refl _ _ | with_reducible refine Below.drew ?_ | with_reducible refine below_drewN ?_ _ | with_reducible refine Below.alloc ?_ (by first | omega | (simp <;> omega)) _ | with_reducible refine Below.setCell ?_ (by first | omega | (dsimp only; omega) | (simp <;> omega)) _ | with_reducible refine Below.trans ?_ (Below.mono (by assumption) (by first | omega | (simp <;> omega)))))) HLD.out (by omega)).mono ?_; rintro e w1 ⟨rfl, hb⟩; have hsz := hb.size; (try simp at hsz)))
            go_light
            refine bodyPost_ret (v := .bool true) (by simp [results, Try.results6, go_sem]) rfl ⟨rfl, ?_⟩
            repeat' (first | with_reducible exact hbw2 | with_reducible refine Below.drew ?_ | with_reducible refine below_drewN ?_ _ | with_reducible refine Below.alloc ?_ (by first | omega | (simp <;> omega)) _ | with_reducible refine Below.setCell ?_ (by first | omega | (dsimp only; omega) | (simp <;> omega)) _ | with_reducible refine Below.trans ?_ (Below.mono (by assumption) (by first | omega | (simp <;> omega))))
      · have hin : ¬ (i : Int) < (n : Int) := by omega
        clear hB
        go_wp2
        clear hin hlt hi
        go_loopw [11, 12] (fun vt vi wr => ∃ i : Nat, vi = .int .i64 (i : Int) ∧ i ≤ n ∧ Hid (wr.ownsRow V0.heap.size 3 1 vt i ((ints (dbl2 (L.take i))).map (Value.int .i64))) ∧ Below V0.heap.size V0 wr) (fun _ vi _ => n - (intOf vi).toNat)
        case atStart => exact ⟨0, rfl, Nat.zero_le _, Lib.hid ⟨rfl, .inl ⟨rfl, rfl⟩⟩, BST⟩
        case round =>
          clear BST
          obtain ⟨i, rfl, hi, HO, hB⟩ := hrel
          have hszr := hB.size
          by_cases hlt : i < n
          · have hltL : i < L.length := by have := HN.out; omega
            have i0 : (0 : Int) ≤ (i : Int) := by omega
            have i1 : (i : Int) < (n : Int) := by omega
            obtain ⟨c, hc⟩ : ∃ x, L[i]? = some x := ⟨_, List.getElem?_eq_getElem (by omega)⟩
            have cc : wr.cell? ⟨bA, oA + i, none⟩ = some (.int .i64 (c : Int)) := by
              have := HA.out i (by rw [ints_length]; omega)
              rw [ints_at' hc] at this
              exact (hB.cell (p := ⟨bA, oA + i, none⟩) bA_lt).trans this
            have Hc := Lib.hid hc
            clear hc
            have hc6 : c ≤ 65536 := HM.out.le c (List.mem_of_getElem? Hc.out)
            have cc0 : (0 : Int) ≤ 2 * (c : Int) := by omega
            have cc1 : 2 * (c : Int) ≤ 131072 := by omega
            have HS := Lib.hid (show (ints (dbl2 (L.take (i + 1)))).map (Value.int .i64) = (ints (dbl2 (L.take i))).map (Value.int .i64) ++ [.int .i64 (2 * (c : Int))] by
              rw [List.take_add_one, Hc.out]
              simp [ints, dbl2])
            go_wp2_with ((at_builtin; refine wpList_append_own _ rfl _ _ 22 rfl V0.heap.size 3 inf (.int .i64 0) 1 8 Try.underlying22 hinf hz0 hz1 hz2 rfl (by decide) _ _ _ rfl (HO.out.alloc _) ⟨wr.heap.size, 0, none⟩ 1 1 [.int .i64 (2 * (c : Int))] rfl rfl (cell_one_new _ _ _) (ints_oneCell .i64 [2 * (c : Int)]) (by unfold maxLen; omega) (by omega) (by simp; omega) ?_; intro v2 w2 ho2 hg2 hn2))
            have B2 : Below V0.heap.size V0 w2 := (hB.alloc (by omega) _).grown hg2 (by simp; omega) (own_base_o HO.out)
            have HO2 := Lib.hid ho2
            clear ho2 hg2 hn2 cc0 cc1 cc hltL HO hB
            refine wp_loop_rounds 1 ?_
            rw [rounds_succ]
            go_wp2
            go_roundw
            case rel => exact ⟨i + 1, by go_num, by omega, by rw [HS.out]; exact HO2, B2⟩
            case measure => simp [intOf]; omega
          · have e : i = n := by omega
            subst e
            have HOF : Hid (wr.ownsRow V0.heap.size 3 1 _ i ((ints (dbl2 L)).map (Value.int .i64))) := Lib.hid (by
              have := HO.out
              rwa [List.take_of_length_le (by have := HN.out; omega)] at this)
            obtain ⟨gt, gtc, rfl, _, _, _⟩ := own_some HOF.out (by omega)
            have rT : Row .i64 wr (some ⟨gt, 0, none⟩) (ints (dbl2 L)) := Row.of_own_slice HOF.out
            have rD2 := rD.later hB
            have hbw2 : Below w.heap.size w wr := bV.trans (hB.mono hbv)
            have hbs2 := hbw2.size
            have qd2 := fun p c W (hr : Row .i64 W p (ints (dbl2 L))) => dep_x p (ints (dbl2 L)) i c W (by rw [ints_length]; have := HN.out; simp [dbl2]; omega) hr (by omega) (ints d) i 0 HW.out.twice (by rw [ints_length]; exact HL2.out.symm)
            have HLD : Hid (i = (ints d).length) := Lib.hid (by rw [ints_length]; exact HL2.out.symm)
            clear bV hB rA rL rD hbw HOF HO qde
            go_wp2_with (first | (go_at_call 12; refine (qd2 _ _ _ (rT.later (by repeat' (first | with_reducible exact Below.refl _ _ | with_reducible refine Below.drew ?_ | with_reducible refine below_drewN ?_ _ | with_reducible refine Below.alloc ?_ (by first | omega | (simp <;> omega)) _ | with_reducible refine Below.setCell ?_ (by first | omega | (dsimp only; omega) | (simp <;> omega)) _ | with_reducible refine Below.trans ?_ (Below.mono (by assumption) (by first | omega | (simp <;> omega))))))).mono ?_; rintro e w1 ⟨pM, cM, rfl, hrM, hb⟩; have hsz := hb.size; (try simp at hsz)) | (go_at_call 14; refine (kn_same _ _ (ints d) i _ _ _ (hrM.later (by repeat' (first | with_reducible exact Below.refl _ _ | with_reducible refine Below.drew ?_ | with_reducible refine below_drewN ?_ _ | with_reducible refine Below.alloc ?_ (by first | omega | (simp <;> omega)) _ | with_reducible refine Below.setCell ?_ (by first | omega | (dsimp only; omega) | (simp <;> omega)) _ | with_reducible refine Below.trans ?_ (Below.mono (by assumption) (by first | omega | (simp <;> omega)))))) (rD2.later (by repeat' (first | with_reducible exact Below.refl _ _ | with_reducible refine Below.drew ?_ | with_reducible refine below_drewN ?_ _ | with_reducible refine Below.alloc ?_ (by first | omega | (simp <;> omega)) _ | with_reducible refine Below.setCell ?_ (by first | omega | (dsimp only; omega) | (simp <;> omega)) _ | with_reducible refine Below.trans ?_ (Below.mono (by assumption) (by first | omega | (simp <;> omega)))))) HLD.out (by omega)).mono ?_; rintro e w1 ⟨rfl, hb⟩; have hsz := hb.size; (try simp at hsz)))
            go_light
            refine bodyPost_ret (v := .bool true) (by simp [results, Try.results6, go_sem]) rfl ⟨rfl, ?_⟩
            repeat' (first | with_reducible exact hbw2 | with_reducible refine Below.drew ?_ | with_reducible refine below_drewN ?_ _ | with_reducible refine Below.alloc ?_ (by first | omega | (simp <;> omega)) _ | with_reducible refine Below.setCell ?_ (by first | omega | (dsimp only; omega) | (simp <;> omega)) _ | with_reducible refine Below.trans ?_ (Below.mono (by assumption) (by first | omega | (simp <;> omega))))

theorem whole_w (a : Option Addr) (xs : List Int) (cap : Nat) (w : World) (ha : Row .i64 w a xs) (hl : xs.length ≤ 9223372036854775807) : Calls Try.prog 6 #[.slice a xs.length cap] w fun e w' => e = .returned (.bool true) ∧ Below w.heap.size w w' :=
  whole_1 a xs cap (mdN xs) _ _ w ha hl rfl (made_of xs) (whole_of (made_of xs))
end Go.Proofs.Ytmfgkimbehkdeaa
