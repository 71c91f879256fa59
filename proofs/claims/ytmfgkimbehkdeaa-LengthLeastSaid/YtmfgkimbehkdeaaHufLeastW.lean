/-
  LengthLeast, walked.
-/
import Derived.Test.YtmfgkimbehkdeaaRows
import Derived.Test.YtmfgkimbehkdeaaHufLeastA
import Derived.Test.YtmfgkimbehkdeaaHufWholeW
import Derived.Test.YtmfgkimbehkdeaaHufKnown
import Derived.Test.YtmfgkimbehkdeaaHufSt26
import Derived.Test.YtmfgkimbehkdeaaGBase
import Derived.Deep.Light
import Derived.Shelf.Abstract
import Derived.Shelf.RegionOpen
import Derived.OwnWalkIn
import Derived.TacticsInMore
import Derived.LoopNIn
import Derived.LoopIn
import Derived.IntWalk
import Derived.Outline
import Derived.Deep.CutRange
namespace Go.Proofs.Ytmfgkimbehkdeaa
open Go.RowKit
set_option linter.unusedSimpArgs false
set_option linter.unusedVariables false
attribute [local go_sem] Oper.semAt_some

theorem ints_set (l : List Nat) (i v : Nat) : (ints (l.set i v)).map (Value.int .i64) = ((ints l).map (Value.int .i64)).set i (.int .i64 (v : Int)) := by
  unfold ints
  rw [List.map_set, List.map_set]
theorem ints_get {l : List Nat} {i v : Nat} (h : l[i]? = some v) : ((ints l).map (Value.int .i64))[i]? = some (.int .i64 (v : Int)) := by
  simp [ints, h]
theorem own_rebase {w : World} {base b2 : Nat} {e : TypeId} {g n cap : Nat} {xs : List Value} (h : w.ownsRow base e 1 (.slice (some ⟨g, 0, none⟩) n cap) n xs) (hb : b2 ≤ g) : w.ownsRow b2 e 1 (.slice (some ⟨g, 0, none⟩) n cap) n xs := by
  obtain ⟨hl, h⟩ := h
  refine ⟨hl, ?_⟩
  rcases h with ⟨h, _⟩ | ⟨g', cap', cur, hv, hb2, r⟩
  · cases h
  · cases hv
    exact .inr ⟨g, cap, cur, rfl, hb, r⟩
set_option maxRecDepth 100000 in
set_option maxHeartbeats 16000000 in
theorem least_1 (a b : Option Addr) (xs ys : List Int) (ca cb : Nat) (x y : Int) (L l d p q : List Nat) (best np nq : Int) (w : World) (ha : Row .i64 w a xs) (hb0 : Row .i64 w b ys) (hl : xs.length ≤ 9223372036854775807) (hl2' : ys.length ≤ 9223372036854775807) (hL : mdN xs = L) (hM : Made L) (hW : Least L l d p q ys best np nq) :
    Calls Try.prog 7 #[.slice a xs.length ca, .slice b ys.length cb, .int .i64 x, .int .i64 y] w fun e w' => e = .returned (.bool true) ∧ Below w.heap.size w w' := by
  obtain ⟨inf, hinf, hz0, hz1, hz2⟩ := info_parts infoInt
  have qm := fun W (hr : Row .i64 W a xs) => made_w a xs ca W hr hl
  rw [hL] at qm
  have lL := ints_length L
  have hlen := hM.len
  have hpos := hM.pos
  have hl1 := hW.len1
  have hl2 := hW.len2
  have HW := Lib.hid hW
  have HM := Lib.hid hM
  obtain ⟨n, hn⟩ : ∃ n, L.length = n := ⟨_, rfl⟩
  rw [hn] at hlen hpos hl1 hl2 lL
  have qof := fun p c W (hr : Row .i64 W p (ints L)) => len_x p (ints L) n c W lL.symm hr (by omega) (ints l) n 0 hW.ofs (by rw [ints_length]; exact hl1.symm)
  have qde := fun p c W (hr : Row .i64 W p (ints L)) => dep_x p (ints L) n c W lL.symm hr (by omega) (ints d) n 0 hW.deps (by rw [ints_length]; exact hl2.symm)
  have qto := fun p c u e W (hr : Row .i64 W p (ints L)) (hs : Row .i64 W u (ints l)) => total_x p u (ints L) (ints l) n n c e W lL.symm (by rw [ints_length]; exact hl1.symm) hr hs (by omega) (by omega) best 0 hW.tot
  have HN := Lib.hid hn
  have HL1 := Lib.hid hl1
  have HL2 := Lib.hid hl2
  have HLL := Lib.hid lL
  clear hL hM hW hn hl1 hl2
  go_enter Try.func7, Try.ntmps7
  go_wp2_with (first | (go_at_call 5; refine (known_w _).mono ?_; rintro e w1 ⟨rfl, hb⟩; have hsz := hb.size; (try simp at hsz)) | (go_at_call 25; (with_reducible refine (qm _ (ha.later (by repeat' (first | with_reducible exact Below.refl _ _ | with_reducible refine Below.drew ?_ | with_reducible refine below_drewN ?_ _ | with_reducible refine Below.alloc ?_ (by first | omega | (simp <;> omega)) _ | with_reducible refine Below.setCell ?_ (by first | omega | (dsimp only; omega) | (simp <;> omega)) _ | with_reducible refine Below.trans ?_ (Below.mono (by assumption) (by first | omega | (simp <;> omega))))))).mono ?_); rintro e w1 ⟨pA, cA, rfl, hrA, hb⟩; rw [HLL.out]; have hsz := hb.size; (try simp at hsz)) | (go_at_call 10; refine (qof _ _ _ (hrA.later (by repeat' (first | with_reducible exact Below.refl _ _ | with_reducible refine Below.drew ?_ | with_reducible refine below_drewN ?_ _ | with_reducible refine Below.alloc ?_ (by first | omega | (simp <;> omega)) _ | with_reducible refine Below.setCell ?_ (by first | omega | (dsimp only; omega) | (simp <;> omega)) _ | with_reducible refine Below.trans ?_ (Below.mono (by assumption) (by first | omega | (simp <;> omega))))))).mono ?_; rintro e w1 ⟨pL, cL, rfl, hrL, hb⟩; have hsz := hb.size; (try simp at hsz)) | (go_at_call 12; refine (qde _ _ _ (hrA.later (by repeat' (first | with_reducible exact Below.refl _ _ | with_reducible refine Below.drew ?_ | with_reducible refine below_drewN ?_ _ | with_reducible refine Below.alloc ?_ (by first | omega | (simp <;> omega)) _ | with_reducible refine Below.setCell ?_ (by first | omega | (dsimp only; omega) | (simp <;> omega)) _ | with_reducible refine Below.trans ?_ (Below.mono (by assumption) (by first | omega | (simp <;> omega))))))).mono ?_; rintro e w1 ⟨pD, cD, rfl, hrD, hb⟩; have hsz := hb.size; (try simp at hsz)) | (go_at_call 19; refine (qto _ _ _ _ _ (hrA.later (by repeat' (first | with_reducible exact Below.refl _ _ | with_reducible refine Below.drew ?_ | with_reducible refine below_drewN ?_ _ | with_reducible refine Below.alloc ?_ (by first | omega | (simp <;> omega)) _ | with_reducible refine Below.setCell ?_ (by first | omega | (dsimp only; omega) | (simp <;> omega)) _ | with_reducible refine Below.trans ?_ (Below.mono (by assumption) (by first | omega | (simp <;> omega)))))) (hrL.later (by repeat' (first | with_reducible exact Below.refl _ _ | with_reducible refine Below.drew ?_ | with_reducible refine below_drewN ?_ _ | with_reducible refine Below.alloc ?_ (by first | omega | (simp <;> omega)) _ | with_reducible refine Below.setCell ?_ (by first | omega | (dsimp only; omega) | (simp <;> omega)) _ | with_reducible refine Below.trans ?_ (Below.mono (by assumption) (by first | omega | (simp <;> omega))))))).mono ?_; rintro e w1 ⟨rfl, hb⟩; have hsz := hb.size; (try simp at hsz)))
  have rA := hrA.later (w' := w1) (by repeat' (first | with_reducible exact Below.refl _ _ | with_reducible refine Below.drew ?_ | with_reducible refine below_drewN ?_ _ | with_reducible refine Below.alloc ?_ (by first | omega | (simp <;> omega)) _ | with_reducible refine Below.setCell ?_ (by first | omega | (dsimp only; omega) | (simp <;> omega)) _ | with_reducible refine Below.trans ?_ (Below.mono (by assumption) (by first | omega | (simp <;> omega)))))
  have rL := hrL.later (w' := w1) (by repeat' (first | with_reducible exact Below.refl _ _ | with_reducible refine Below.drew ?_ | with_reducible refine below_drewN ?_ _ | with_reducible refine Below.alloc ?_ (by first | omega | (simp <;> omega)) _ | with_reducible refine Below.setCell ?_ (by first | omega | (dsimp only; omega) | (simp <;> omega)) _ | with_reducible refine Below.trans ?_ (Below.mono (by assumption) (by first | omega | (simp <;> omega)))))
  have rD := hrD.later (w' := w1) (by repeat' (first | with_reducible exact Below.refl _ _ | with_reducible refine Below.drew ?_ | with_reducible refine below_drewN ?_ _ | with_reducible refine Below.alloc ?_ (by first | omega | (simp <;> omega)) _ | with_reducible refine Below.setCell ?_ (by first | omega | (dsimp only; omega) | (simp <;> omega)) _ | with_reducible refine Below.trans ?_ (Below.mono (by assumption) (by first | omega | (simp <;> omega)))))
  have bV : Below w.heap.size w w1 := (by repeat' (first | with_reducible exact Below.refl _ _ | with_reducible refine Below.drew ?_ | with_reducible refine below_drewN ?_ _ | with_reducible refine Below.alloc ?_ (by first | omega | (simp <;> omega)) _ | with_reducible refine Below.setCell ?_ (by first | omega | (dsimp only; omega) | (simp <;> omega)) _ | with_reducible refine Below.trans ?_ (Below.mono (by assumption) (by first | omega | (simp <;> omega)))))
  have hbv := bV.size
  obtain ⟨bA, oA, rfl, bA_lt, hAc⟩ := rA.at (i := 0) (by rw [ints_length]; have := HN.out; omega)
  obtain ⟨bD, oD, rfl, bD_lt, hDc⟩ := rD.at (i := 0) (by rw [ints_length]; have := HL2.out; omega)
  have HA := Lib.hid hAc
  have HD := Lib.hid hDc
  have hb9 := hb0.later bV
  obtain ⟨V0, hV0⟩ : ∃ V0, V0 = w1 := ⟨_, rfl⟩
  subst hV0
  have B00 : Below V0.heap.size V0 V0 := Below.refl _ _
  clear hAc hDc hrA hrL hrD qm qof qde qto ha hb0
  go_loopw [17] (fun vi wr => ∃ i : Nat, vi = .int .i64 (i : Int) ∧ i ≤ n ∧ Hid (∀ x ∈ d.take i, x ≤ 11) ∧ Below V0.heap.size V0 wr) (fun vi _ => n - (intOf vi).toNat)
  case atStart => exact ⟨0, rfl, Nat.zero_le _, Lib.hid (by simp), B00⟩
  case round =>
    clear B00
    obtain ⟨i, rfl, hi, HG, hB⟩ := hrel
    have hbw : Below w.heap.size w wr := bV.trans (hB.mono hbv)
    by_cases hlt : i < n
    · have i0 : (0 : Int) ≤ (i : Int) := by omega
      have i1 : (i : Int) < (n : Int) := by omega
      have hltd : i < d.length := by have := HL2.out; omega
      obtain ⟨t, ht⟩ : ∃ x, d[i]? = some x := ⟨_, List.getElem?_eq_getElem (by omega)⟩
      have ct : wr.cell? ⟨bD, oD + i, none⟩ = some (.int .i64 (t : Int)) := by
        have := HD.out i (by rw [ints_length]; omega)
        rw [ints_at' ht] at this
        exact (hB.cell (p := ⟨bD, oD + i, none⟩) bD_lt).trans this
      have Ht := Lib.hid ht
      clear ht
      clear hltd
      by_cases h11 : 11 < t
      · have t0 : (11 : Int) < (t : Int) := by omega
        go_wp2
        go_light
        refine bodyPost_ret (v := .bool true) (by simp [results, Try.results7, go_sem]) rfl ⟨rfl, hbw⟩
      · have t0 : ¬ (11 : Int) < (t : Int) := by omega
        have HG2 : Hid (∀ x ∈ d.take (i + 1), x ≤ 11) := Lib.hid (by
          intro x hx
          rw [List.take_add_one, Ht.out] at hx
          rcases List.mem_append.1 hx with hx | hx
          · exact HG.out x hx
          · simp at hx; omega)
        go_wp2
        go_roundw
        case rel => exact ⟨i + 1, by go_num, by omega, HG2, hB⟩
        case measure => simp [intOf]; omega
    · have HLOW := Lib.hid (HW.out.low (by
        have := HG.out
        rwa [List.take_of_length_le (by have := HL2.out; omega)] at this))
      have hin : ¬ (i : Int) < (n : Int) := by omega
      have hn0 : (1 : Int) ≤ (n : Int) := by omega
      obtain ⟨A, hA⟩ : ∃ A : Nat, x % (n : Int) = (A : Int) := ⟨(x % (n : Int)).toNat, by have := Int.emod_nonneg x (show (n : Int) ≠ 0 by omega); omega⟩
      obtain ⟨B, hBB⟩ : ∃ B : Nat, y % (n : Int) = (B : Int) := ⟨(y % (n : Int)).toNat, by have := Int.emod_nonneg y (show (n : Int) ≠ 0 by omega); omega⟩
      have hAn : A < n := by have := Int.emod_lt_of_pos x (show (0 : Int) < (n : Int) by omega); omega
      have hBn : B < n := by have := Int.emod_lt_of_pos y (show (0 : Int) < (n : Int) by omega); omega
      have qx := fun w => modK x (n : Int) hn0 (by omega) w
      have qy := fun w => modK y (n : Int) hn0 (by omega) w
      rw [hA] at qx
      rw [hBB] at qy
      have rA2 := rA.later hB
      have rL2 := rL.later hB
      have hb8 := hb9.later hB
      have hbs := hbw.size
      have qo := fun p c W (hr : Row .i64 W p (ints l)) => ownInts_own p (ints l) c W hr (by rw [ints_length]; have := HL1.out; omega)
      have HOL : Hid ((ints l).length = n) := Lib.hid (by rw [ints_length]; exact HL1.out)
      rw [HOL.out] at qo
      have HHA := Lib.hid hA
      clear hA hBB
      go_wp2_with (first | (go_at_call 26; (with_reducible refine (qx _).mono ?_); rintro e w1 ⟨rfl, hb⟩; have hsz := hb.size; (try simp at hsz)) | (go_at_call 26; (with_reducible refine (qy _).mono ?_); rintro e w1 ⟨rfl, hb⟩; have hsz := hb.size; (try simp at hsz)) | (go_at_call 9; refine (qo _ _ _ (rL2.later (by repeat' (first | with_reducible exact Below.refl _ _ | with_reducible refine Below.drew ?_ | with_reducible refine below_drewN ?_ _ | with_reducible refine Below.alloc ?_ (by first | omega | (simp <;> omega)) _ | with_reducible refine Below.setCell ?_ (by first | omega | (dsimp only; omega) | (simp <;> omega)) _ | with_reducible refine Below.trans ?_ (Below.mono (by assumption) (by first | omega | (simp <;> omega))))))).mono ?_; rintro e w4 ⟨v4, rfl, hown4, hb4⟩; rw [HOL.out] at hown4))
      have hVs := hB.size
      have hV4 : Below V0.heap.size V0 w4 := (by repeat' (first | with_reducible exact hB | with_reducible refine Below.drew ?_ | with_reducible refine below_drewN ?_ _ | with_reducible refine Below.alloc ?_ (by first | omega | (simp <;> omega)) _ | with_reducible refine Below.setCell ?_ (by first | omega | (dsimp only; omega) | (simp <;> omega)) _ | with_reducible refine Below.trans ?_ (Below.mono (by assumption) (by first | omega | (simp <;> omega)))))
      obtain ⟨g, gc, rfl, hg, hgl, hgc⟩ := own_some hown4 (by omega)
      have hgV : V0.heap.size ≤ g := by omega
      have HO4 := Lib.hid (own_rebase hown4 hgV)
      clear hown4 hg hgc rA2 rL2 hb8 qx qy qo
      obtain ⟨la, hla⟩ : ∃ la, l[A]? = some la := ⟨_, List.getElem?_eq_getElem (by have := HL1.out; omega)⟩
      obtain ⟨lb, hlb⟩ : ∃ lb, l[B]? = some lb := ⟨_, List.getElem?_eq_getElem (by have := HL1.out; omega)⟩
      obtain ⟨T, hT⟩ : ∃ T, (l.set A lb).set B la = T := ⟨_, rfl⟩
      have HT := Lib.hid hT
      obtain ⟨cA1, fA1⟩ := own_cell HO4.out (ints_get hla)
      obtain ⟨cB1, fB1⟩ := own_cell HO4.out (ints_get hlb)
      have a0 : (0 : Int) ≤ (A : Int) := by omega
      have a1 : (A : Int) < (n : Int) := by omega
      have b0 : (0 : Int) ≤ (B : Int) := by omega
      have b1 : (B : Int) < (n : Int) := by omega
      have HLA := Lib.hid hla
      have HLB := Lib.hid hlb
      have HV4 := Lib.hid hV4
      have HGV := Lib.hid hgV
      clear hT hla hlb hV4 hgV hgl
      go_cut [104] from 97 to 110 (fun s104 wx => s104 = .int .i64 (lb : Int) ∧ Hid (wx.ownsRow V0.heap.size 3 1 (.slice (some ⟨g, 0, none⟩) n gc) n ((ints T).map (Value.int .i64))) ∧ Below V0.heap.size V0 wx)
      case first =>
        by_cases e : A = B
        · subst e
          have E2 : Hid (la = lb) := Lib.hid (by have h1 := HLA.out; rw [HLB.out] at h1; cases h1; rfl)
          go_region
          all_goals (go_wp2_with fail; go_meet; go_light)
          all_goals
            refine ⟨by first | rfl | (rw [E2.out]), Lib.hid ?_, ((HV4.out.setCell (by have := HGV.out; simpa using this) _).setCell (by have := HGV.out; simpa using this) _).drew⟩
            rw [← HT.out, ints_set, ints_set]
            have e2 : la = lb := by have h1 := HLA.out; rw [HLB.out] at h1; cases h1; rfl
            subst e2
            exact ownsRow_later (own_put (own_put HO4.out _ _) _ _) (Below.refl _ _).drew
        · have e1 : ¬ B = A := fun h => e h.symm
          go_region
          all_goals (go_wp2_with fail; go_meet; go_light)
          all_goals
            refine ⟨by first | rfl | (rw [E2.out]), Lib.hid ?_, ((HV4.out.setCell (by have := HGV.out; simpa using this) _).setCell (by have := HGV.out; simpa using this) _).drew⟩
            rw [← HT.out, ints_set, ints_set]
            first
              | exact ownsRow_later (own_put (own_put HO4.out _ _) _ _) (Below.refl _ _).drew
              | (rw [List.set_comm _ _ e]; exact ownsRow_later (own_put (own_put HO4.out _ _) _ _) (Below.refl _ _).drew)
      case rest =>
        obtain ⟨rfl, HOT, hBc⟩ := hcut
        clear cA1 fA1 cB1 fB1 a0 a1 b0 b1 HO4 HV4 hb4
        have rT : Row .i64 wc (some ⟨g, 0, none⟩) (ints T) := Row.of_own_slice HOT.out
        have rAc := rA.later hBc
        obtain ⟨v, E, hvE⟩ : ∃ v E, rTotal (ints L) (ints T) = (v, E) := ⟨_, _, rfl⟩
        have HVE := Lib.hid hvE
        have hlt2 : T.length = n := by rw [← HT.out]; simpa using HL1.out
        have qtt := fun p c u e W (hr : Row .i64 W p (ints L)) (hs : Row .i64 W u (ints T)) => total_x p u (ints L) (ints T) n n c e W (by rw [ints_length]; exact HN.out.symm) (by rw [ints_length]; exact hlt2.symm) hr hs (by omega) (by omega) v E hvE
        clear hvE hlt2
        go_upto_region 17 with ((go_at_call 19; refine (qtt _ _ _ _ _ (rAc.later (by repeat' (first | with_reducible exact Below.refl _ _ | with_reducible refine Below.drew ?_ | with_reducible refine below_drewN ?_ _ | with_reducible refine Below.alloc ?_ (by first | omega | (simp <;> omega)) _ | with_reducible refine Below.setCell ?_ (by first | omega | (dsimp only; omega) | (simp <;> omega)) _ | with_reducible refine Below.trans ?_ (Below.mono (by assumption) (by first | omega | (simp <;> omega)))))) (rT.later (by repeat' (first | with_reducible exact Below.refl _ _ | with_reducible refine Below.drew ?_ | with_reducible refine below_drewN ?_ _ | with_reducible refine Below.alloc ?_ (by first | omega | (simp <;> omega)) _ | with_reducible refine Below.setCell ?_ (by first | omega | (dsimp only; omega) | (simp <;> omega)) _ | with_reducible refine Below.trans ?_ (Below.mono (by assumption) (by first | omega | (simp <;> omega))))))).mono ?_; rintro e w1 ⟨rfl, hb⟩; have hsz := hb.size; (try simp at hsz)))
        have hBs := hBc.size
        have B5 : Below V0.heap.size V0 w1 := hBc.trans (hb.mono hBs)
        have hlow : E = 0 → best ≤ v := fun h => HLOW.out _ _ (h ▸ HVE.out)
        have HLW := Lib.hid hlow
        clear hlow hBc hb rT rAc qtt
        go_cut [123] from 117 to 123 (fun s123 wx => s123 = .bool false ∧ Below V0.heap.size V0 wx)
        case first =>
          by_cases e : E = 0
          · have j0 : (E == 0) = true := by simpa using e
            have j1 : ¬ v < best := by have := HLW.out e; omega
            clear e
            go_wp2_with fail
            go_meet
            exact ⟨rfl, B5⟩
          · have j0 : (E == 0) = false := by simpa using e
            clear e
            go_wp2_with fail
            go_meet
            exact ⟨rfl, B5⟩
        case rest =>
          clear B5
          obtain ⟨rfl, B5⟩ := hcut
          have T5 : Hid (Two V0.heap.size (.slice none 0 0) (.slice none 0 0) 0 0 ((ints (otL L ys 0)).map (Value.int .i64)) ((ints (evL L 0)).map (Value.int .i64)) wc) := Lib.hid ⟨⟨rfl, .inl ⟨rfl, rfl⟩⟩, ⟨rfl, .inl ⟨rfl, rfl⟩⟩, .inl rfl⟩
          go_wp2
          go_loopw [21, 22, 23] (fun vo ve vi wr => ∃ i : Nat, vi = .int .i64 (i : Int) ∧ i ≤ n ∧ Hid (Two V0.heap.size vo ve i i ((ints (otL L ys i)).map (Value.int .i64)) ((ints (evL L i)).map (Value.int .i64)) wr) ∧ Below V0.heap.size V0 wr) (fun _ _ vi _ => n - (intOf vi).toNat)
          case atStart => exact ⟨0, rfl, Nat.zero_le _, T5, B5⟩
          case round =>
            clear T5 B5 hin hi hlt
            obtain ⟨i, rfl, hi, HTW, hB⟩ := hrel
            have hszr := hB.size
            by_cases hlt : i < n
            · have hltL : i < L.length := by have := HN.out; omega
              have i0 : (0 : Int) ≤ (i : Int) := by omega
              have i1 : (i : Int) < (n : Int) := by omega
              obtain ⟨c, hc⟩ : ∃ x, L[i]? = some x := ⟨_, List.getElem?_eq_getElem (by omega)⟩
              have cc : wr.cell? ⟨bA, oA + i, none⟩ = some (.int .i64 (c : Int)) := by
                have := HA.out i (by rw [ints_length]; omega)
                rw [ints_at' hc] at this
                exact (hB.cell (p := ⟨bA, oA + i, none⟩) bA_lt).trans this
              have Hc := Lib.hid hc
              clear hc
              have HOT2 : Hid ((ints (otL L ys (i + 1))).map (Value.int .i64) = (ints (otL L ys i)).map (Value.int .i64) ++ [.int .i64 ((otF L ys i : Nat) : Int)]) := Lib.hid (by rw [otL_succ]; simp [ints])
              have HEV2 : Hid ((ints (evL L (i + 1))).map (Value.int .i64) = (ints (evL L i)).map (Value.int .i64) ++ [.int .i64 ((min c 1 : Nat) : Int)]) := Lib.hid (by rw [evL_succ Hc.out]; simp [ints])
              have hof : Hid (otF L ys i = if 0 < c then 1 + ((ys.getD i 0) % 1000).toNat else 0) := Lib.hid (by unfold otF; rw [List.getD_eq_getElem?_getD, Hc.out]; rfl)
              clear hltL
              have HTW2 := HTW
              go_upto_if 134 with (fail)
              go_cut [24] from 130 to 139 (fun s24 wx => s24 = .int .i64 ((otF L ys i : Nat) : Int) ∧ Hid (Two V0.heap.size u21 u22 i i ((ints (otL L ys i)).map (Value.int .i64)) ((ints (evL L i)).map (Value.int .i64)) wx) ∧ Below V0.heap.size V0 wx)
              case first =>
                by_cases h0 : 0 < c
                · have p0 : (0 : Int) < (c : Int) := by omega
                  have p00 : decide (0 < c) = true := decide_eq_true h0
                  obtain ⟨m, hm⟩ : ∃ m : Nat, (ys.getD i 0) % 1000 = (m : Int) := ⟨((ys.getD i 0) % 1000).toNat, by omega⟩
                  have hm2 : m < 1000 := by omega
                  have HO : Hid (((otF L ys i : Nat) : Int) = 1 + (m : Int)) := Lib.hid (by rw [hof.out, if_pos h0, hm]; simp)
                  have qat := fun W (hr : Row .i64 W b ys) => at_w b ys cb i W hr hl2' (by omega)
                  obtain ⟨z, hz⟩ : ∃ z, ys.getD i 0 = z := ⟨_, rfl⟩
                  rw [hz] at qat hm
                  have qmo := fun w => modK z 1000 (by omega) (by omega) w
                  rw [hm] at qmo
                  have hbr := hb9.later hB
                  clear hz hm
                  go_wp2_with (first | (go_at_call 27; refine (qat _ (hbr.later (by repeat' (first | with_reducible exact Below.refl _ _ | with_reducible refine Below.drew ?_ | with_reducible refine below_drewN ?_ _ | with_reducible refine Below.alloc ?_ (by first | omega | (simp <;> omega)) _ | with_reducible refine Below.setCell ?_ (by first | omega | (dsimp only; omega) | (simp <;> omega)) _ | with_reducible refine Below.trans ?_ (Below.mono (by assumption) (by first | omega | (simp <;> omega))))))).mono ?_; rintro e w1 ⟨rfl, hb⟩; have hsz := hb.size; (try simp at hsz)) | (go_at_call 26; refine (qmo _).mono ?_; rintro e w1 ⟨rfl, hb⟩; have hsz := hb.size; (try simp at hsz)))
                  go_meet
                  have TT := HTW2.out.later (w' := w1) (by repeat' (first | with_reducible exact Below.refl _ _ | with_reducible refine Below.drew ?_ | with_reducible refine below_drewN ?_ _ | with_reducible refine Below.alloc ?_ (by first | omega | (simp <;> omega)) _ | with_reducible refine Below.setCell ?_ (by first | omega | (dsimp only; omega) | (simp <;> omega)) _ | with_reducible refine Below.trans ?_ (Below.mono (by assumption) (by first | omega | (simp <;> omega)))))
                  exact ⟨by rw [HO.out], Lib.hid TT, by repeat' (first | with_reducible exact hB | with_reducible refine Below.drew ?_ | with_reducible refine below_drewN ?_ _ | with_reducible refine Below.alloc ?_ (by first | omega | (simp <;> omega)) _ | with_reducible refine Below.setCell ?_ (by first | omega | (dsimp only; omega) | (simp <;> omega)) _ | with_reducible refine Below.trans ?_ (Below.mono (by assumption) (by first | omega | (simp <;> omega))))⟩
                · have p0 : ¬ (0 : Int) < (c : Int) := by omega
                  have p00 : decide (0 < c) = false := decide_eq_false h0
                  have HO : Hid (((otF L ys i : Nat) : Int) = 0) := Lib.hid (by rw [hof.out, if_neg h0]; rfl)
                  go_wp2_with fail
                  go_meet
                  exact ⟨by rw [HO.out], HTW2, hB⟩
              case rest =>
                obtain ⟨rfl, HTW3, hBc⟩ := hcut
                have hBcs := hBc.size
                have cc2 : ∀ W, Below V0.heap.size V0 W → W.cell? ⟨bA, oA + i, none⟩ = some (.int .i64 (c : Int)) := fun W hW => by
                  have h1 := HA.out i (by rw [ints_length]; have := HN.out; omega)
                  rw [ints_at' Hc.out] at h1
                  exact (hW.cell (p := ⟨bA, oA + i, none⟩) bA_lt).trans h1
                have CC2 := Lib.hid cc2
                clear cc2 cc hB HTW hszr
                generalize otF L ys i = ot at HOT2 hof
                have hmin : c = 0 ∨ c = 1 ∨ 1 < c := by omega
                go_wp2
                refine wp_region_any (by kernel_rfl) ?_
                change wpAny _ _ _ _ _ _ _ (World.drew wc)
                refine wpAny_take (i := 0) (v := ?_) rfl (by kernel_rfl) (by kernel_rfl) (by kernel_rfl) (fun _ _ _ h => h) (Or.inl ⟨by rfl, ?_⟩) ?_
                rotate_left
                · (intro w; go_simp) <;> with_reducible rfl
                refine wpAny_take (i := 1) (v := ?_) rfl (by kernel_rfl) (by kernel_rfl) (by kernel_rfl) (fun _ _ _ h => h) (Or.inl ⟨by rfl, ?_⟩) ?_
                rotate_left
                · (intro w; go_simp) <;> with_reducible rfl
                refine wpAny_take (i := 4) (v := ?_) rfl (by kernel_rfl) (by kernel_rfl) (by kernel_rfl) (fun _ _ _ h => h) (Or.inl ⟨by rfl, ?_⟩) ?_
                rotate_left
                · (intro w; go_simp) <;> with_reducible rfl
                refine wpAny_take (i := 5) (v := ?_) rfl (by kernel_rfl) (by kernel_rfl) (by kernel_rfl) (fun _ _ _ h => h) (Or.inl ⟨by rfl, ?_⟩) ?_
                rotate_left
                · (intro w; go_simp) <;> with_reducible rfl
                refine wpAny_take (i := 6) (v := ?_) rfl (by kernel_rfl) (by kernel_rfl) (by kernel_rfl) (fun _ _ _ h => h) (Or.inl ⟨by rfl, ?_⟩) ?_
                rotate_left
                · (intro w; go_simp) <;> with_reducible rfl
                refine wpAny_take (i := 7) (v := ?_) rfl (by kernel_rfl) (by kernel_rfl) (by kernel_rfl) (fun _ _ _ h => h) (Or.inl ⟨by rfl, ?_⟩) ?_
                rotate_left
                · (intro w; go_simp) <;> with_reducible rfl
                refine wpAny_inv0 (fun A0 listed a w' => ∃ (b2 b3 b8 b9 b10 b11 : Bool) (v2 v3 v8 v9 v10 v11 : Value) (A2 A10 : Nat), listed = #[true, true, b2, b3, true, true, true, true, b8, b9, b10, b11, false, false] ∧ (b3 = true → b2 = true) ∧ (b9 = true → b8 = true) ∧ (b10 = true → b9 = true) ∧ (b11 = true → b10 = true) ∧ a = pt26 A0 v2 v3 v8 v9 v10 v11 ∧ Below V0.heap.size V0 w' ∧
                  Hid (St26 V0.heap.size u21 u22 i ((ints (otL L ys i)).map (Value.int .i64)) ((ints (evL L i)).map (Value.int .i64)) (ot : Int) ((min c 1 : Nat) : Int) (c : Int) b2 b3 b8 b9 b10 b11 v2 v3 v8 v9 v10 v11 A2 A10 w')) (by decide +kernel) ?_ ?_
                · obtain ⟨v2, v3, v8, v9, v10, v11, hA0⟩ := pt26_self _
                  exact ⟨false, false, false, false, false, false, v2, v3, v8, v9, v10, v11, 0, 0, by decide +kernel, by simp, by simp, by simp, by simp, hA0, hBc.drew, Lib.hid (St26.start HTW3.out.drew)⟩
                · rintro listed a w' ⟨b2, b3, b8, b9, b10, b11, v2, v3, v8, v9, v10, v11, A2, A10, rfl, i32, i98, i109, i1110, rfl, hB, HS⟩
                  refine ⟨?_, fun k hk => ?_⟩
                  · clear HS
                    revert i32 i98 i109 i1110
                    cases b2 <;> cases b3 <;> cases b8 <;> cases b9 <;> cases b10 <;> cases b11 <;> decide +kernel
                  · have hk2 : k = 2 ∧ b2 = false ∧ b3 = false ∨ k = 3 ∧ b3 = false ∧ b2 = true ∨ k = 8 ∧ b8 = false ∨ k = 9 ∧ b9 = false ∧ b8 = true ∨ k = 10 ∧ b10 = false ∧ b11 = false ∧ b9 = true ∨ k = 11 ∧ b11 = false ∧ b10 = true ∨ k = 12 ∧ b2 = true ∧ b3 = true ∧ b8 = true ∧ b9 = true ∧ b10 = true ∧ b11 = true := by
                      clear HS
                      revert hk
                      revert k
                      revert i32 i98 i109 i1110
                      cases b2 <;> cases b3 <;> cases b8 <;> cases b9 <;> cases b10 <;> cases b11 <;> decide +kernel
                    clear hk
                    have hbs := hB.size
                    rcases hk2 with ⟨rfl, rfl, rfl⟩ | ⟨rfl, rfl, rfl⟩ | ⟨rfl, rfl⟩ | ⟨rfl, rfl, rfl⟩ | ⟨rfl, rfl, rfl, rfl⟩ | ⟨rfl, rfl, rfl⟩ | ⟨rfl, rfl, rfl, rfl, rfl, rfl, rfl⟩
                    · unfold pt26
                      refine step_of rfl (fun K hK => ?_)
                      go_simp
                      exact hK _ _ (Or.inl ⟨true, false, b8, b9, b10, b11, .slice (some ⟨w'.heap.size, 0, none⟩) 1 1, v3, v8, v9, v10, v11, w'.heap.size, A10, by simp, by simp, i98, i109, i1110, by simp [pt26, Act.put], hB.alloc (by omega) _, Lib.hid HS.out.do2⟩)
                    · obtain rfl := HS.out.h2 rfl
                      have hp := HS.out.p2 rfl rfl
                      have hT : w'.ownsRow V0.heap.size 3 1 u21 i ((ints (otL L ys i)).map (Value.int .i64)) := HS.out.two.own1
                      refine step_of rfl (fun K hK => ?_)
                      refine step_append_lies _ (by rfl) (.tmp 140) (.tmp 142) 22 (by rfl) V0.heap.size 3 inf _ 1 8 Try.underlying22 hinf hz0 hz1 hz2 rfl (by omega) u21 i _ (pt26_e140 _ _ _ _ _ _ _ _ (by simp [Act.eval, Act.put])) hT ⟨A2, 0, none⟩ 1 1 [.int .i64 (ot : Int)] (pt26_e142 _ _ _ _ _ _ _ (by simp [Act.put])) (by rfl) hp.news (by simp [Value.oneCell']) (by omega) (by unfold maxLen; omega) (by omega) hbs w'.heap.size rfl ?_
                      intro g3 c3 w3 ho3 hg3 hat3 hlt3
                      exact hK _ _ (Or.inl ⟨true, true, b8, b9, b10, b11, .slice (some ⟨A2, 0, none⟩) 1 1, .slice (some ⟨g3, 0, none⟩) (i + 1) c3, v8, v9, v10, v11, A2, A10, by simp, by simp, i98, i109, i1110, pt26_put143 _ _ _ _ _ _ _ _, hB.grown hg3 hbs (own_base_o hT), Lib.hid (HS.out.do3 ho3 hg3 (hat3.elim (fun h => .inl h.symm) (fun h => .inr (by rw [h]; rfl))))⟩)
                    · have cw := CC2.out w' hB
                      unfold pt26
                      refine step_of rfl (fun K hK => ?_)
                      go_simp
                      exact hK _ _ (Or.inl ⟨b2, b3, true, b9, b10, b11, v2, v3, .int .i64 (c : Int), v9, v10, v11, A2, A10, by simp, i32, by simp, i109, i1110, by simp [pt26, Act.put], hB, Lib.hid HS.out.do8⟩)
                    · obtain rfl := HS.out.h8 rfl
                      unfold pt26
                      refine step_of rfl (fun K hK => ?_)
                      rcases hmin with e | e | e
                      · subst e
                        go_simp
                        exact hK _ _ (Or.inl ⟨b2, b3, true, true, b10, b11, v2, v3, .int .i64 ((0 : Nat) : Int), .int .i64 ((min 0 1 : Nat) : Int), v10, v11, A2, A10, by simp, i32, by simp, by simp, i1110, by simp [pt26, Act.put], hB, Lib.hid HS.out.do9⟩)
                      · subst e
                        go_simp
                        exact hK _ _ (Or.inl ⟨b2, b3, true, true, b10, b11, v2, v3, .int .i64 ((1 : Nat) : Int), .int .i64 ((min 1 1 : Nat) : Int), v10, v11, A2, A10, by simp, i32, by simp, by simp, i1110, by simp [pt26, Act.put], hB, Lib.hid HS.out.do9⟩)
                      · have e1 : (1 : Int) < (c : Int) := by omega
                        have e2 : ((min c 1 : Nat) : Int) = 1 := by omega
                        have E2 := Lib.hid e2
                        have HS9 := Lib.hid HS.out.do9
                        clear e2 HS
                        go_simp
                        exact hK _ _ (Or.inl ⟨b2, b3, true, true, b10, b11, v2, v3, .int .i64 (c : Int), .int .i64 ((min c 1 : Nat) : Int), v10, v11, A2, A10, by simp, i32, by simp, by simp, i1110, by rw [E2.out]; simp [pt26, Act.put], hB, HS9⟩)
                    · obtain rfl := HS.out.h9 rfl
                      unfold pt26
                      refine step_of rfl (fun K hK => ?_)
                      go_simp
                      exact hK _ _ (Or.inl ⟨b2, b3, b8, true, true, false, v2, v3, v8, .int .i64 ((min c 1 : Nat) : Int), .slice (some ⟨w'.heap.size, 0, none⟩) 1 1, v11, A2, w'.heap.size, by simp, i32, i98, by simp, by simp, by simp [pt26, Act.put], hB.alloc (by omega) _, Lib.hid HS.out.do10⟩)
                    · obtain rfl := HS.out.h10 rfl
                      have hp := HS.out.p10 rfl rfl
                      have hT : w'.ownsRow V0.heap.size 3 1 u22 i ((ints (evL L i)).map (Value.int .i64)) := HS.out.two.own2
                      refine step_of rfl (fun K hK => ?_)
                      refine step_append_lies _ (by rfl) (.tmp 144) (.tmp 150) 22 (by rfl) V0.heap.size 3 inf _ 1 8 Try.underlying22 hinf hz0 hz1 hz2 rfl (by omega) u22 i _ (pt26_e144 _ _ _ _ _ _ _ _ (by simp [Act.eval, Act.put])) hT ⟨A10, 0, none⟩ 1 1 [.int .i64 ((min c 1 : Nat) : Int)] (pt26_e150 _ _ _ _ _ _ _ (by simp [Act.put])) (by rfl) hp.news (by simp [Value.oneCell']) (by omega) (by unfold maxLen; omega) (by omega) hbs w'.heap.size rfl ?_
                      intro g3 c3 w3 ho3 hg3 hat3 hlt3
                      exact hK _ _ (Or.inl ⟨b2, b3, b8, b9, true, true, v2, v3, v8, v9, .slice (some ⟨A10, 0, none⟩) 1 1, .slice (some ⟨g3, 0, none⟩) (i + 1) c3, A2, A10, by simp, i32, i98, i109, by simp, pt26_put151 _ _ _ _ _ _ _ _, hB.grown hg3 hbs (own_base_o hT), Lib.hid (HS.out.do11 ho3 hg3 (hat3.elim (fun h => .inl h.symm) (fun h => .inr (by rw [h]; rfl))))⟩)
                    · have hT : Two V0.heap.size v3 v11 (i + 1) (i + 1) ((ints (otL L ys i)).map (Value.int .i64) ++ [.int .i64 (ot : Int)]) ((ints (evL L i)).map (Value.int .i64) ++ [.int .i64 ((min c 1 : Nat) : Int)]) w' := HS.out.two
                      clear HS CC2
                      unfold pt26
                      refine step_of rfl (fun K hK => ?_)
                      go_simp
                      refine hK _ _ (Or.inr ?_)
                      clear hK K
                      refine wpAny_fuel (n := 1) (by decide +kernel) ?_
                      refine wpAny_take (i := 13) (v := ?_) rfl (by kernel_rfl) (by kernel_rfl) (by kernel_rfl) (fun _ _ _ h => h) (Or.inl ⟨by rfl, ?_⟩) ?_
                      rotate_left
                      · (intro w; go_simp) <;> with_reducible rfl
                      refine wpAny_done (by kernel_rfl) ?_ _
                      go_wp2_with fail
                      go_roundw
                      case rel => exact ⟨i + 1, by go_num, by omega, Lib.hid (by rw [HOT2.out, HEV2.out]; exact hT), hB⟩
                      case measure => simp [intOf]; omega
            · have e : i = n := by omega
              subst e
              have eL := HN.out
              obtain ⟨g1, c1, rfl, _, _, _⟩ := own_some HTW.out.own1 (by omega)
              obtain ⟨g2, c2, rfl, _, _, _⟩ := own_some HTW.out.own2 (by omega)
              have rO : Row .i64 wr (some ⟨g1, 0, none⟩) (ints (otL L ys i)) := Row.of_own_slice HTW.out.own1
              have rE : Row .i64 wr (some ⟨g2, 0, none⟩) (ints (evL L i)) := Row.of_own_slice HTW.out.own2
              have rA9 := rA.later hB
              have hbw2 : Below w.heap.size w wr := bV.trans (hB.mono hbv)
              have hbs2 := hbw2.size
              have HWW := HW.out
              have hoth := HWW.other
              have heve := HWW.even
              rw [eL] at hoth heve
              have lO : i = (ints (otL L ys i)).length := by simp [ints, otL]
              have lE : i = (ints (evL L i)).length := by simp [ints, evL]; omega
              have lP : i = (ints p).length := by rw [ints_length, HWW.lenp, eL]
              have lQ : i = (ints q).length := by rw [ints_length, HWW.lenq, eL]
              have lA : i = (ints L).length := by rw [ints_length, eL]
              have q1 := fun u c W (hr : Row .i64 W u (ints (otL L ys i))) => len_x u (ints (otL L ys i)) i c W lO hr (by omega) (ints p) i 0 hoth lP
              have q2 := fun u c W (hr : Row .i64 W u (ints (evL L i))) => len_x u (ints (evL L i)) i c W lE hr (by omega) (ints q) i 0 heve lQ
              have q3 := fun u c u2 c2 W (hr : Row .i64 W u (ints L)) (hs : Row .i64 W u2 (ints p)) => total_x u u2 (ints L) (ints p) i i c c2 W lA lP hr hs (by omega) (by omega) np 0 HWW.totp
              have q4 := fun u c u2 c2 W (hr : Row .i64 W u (ints L)) (hs : Row .i64 W u2 (ints q)) => total_x u u2 (ints L) (ints q) i i c c2 W lA lQ hr hs (by omega) (by omega) nq 0 HWW.totq
              have f1 : best ≤ np := HLOW.out _ _ HWW.totp
              have f2 : best ≤ nq := HLOW.out _ _ HWW.totq
              clear bV hB rA rL rD hbw HTW HWW hoth heve lO lE lP lQ lA eL hb9 HOT
              go_wp2_with (first | (go_at_call 10; (with_reducible refine (q1 (some ⟨g1, 0, none⟩) _ _ (rO.later (by repeat' (first | with_reducible exact Below.refl _ _ | with_reducible refine Below.drew ?_ | with_reducible refine below_drewN ?_ _ | with_reducible refine Below.alloc ?_ (by first | omega | (simp <;> omega)) _ | with_reducible refine Below.setCell ?_ (by first | omega | (dsimp only; omega) | (simp <;> omega)) _ | with_reducible refine Below.trans ?_ (Below.mono (by assumption) (by first | omega | (simp <;> omega))))))).mono ?_); rintro e w1 ⟨pP, cP, rfl, hrP, hb⟩; have hsz := hb.size; (try simp at hsz)) | (go_at_call 10; (with_reducible refine (q2 (some ⟨g2, 0, none⟩) _ _ (rE.later (by repeat' (first | with_reducible exact Below.refl _ _ | with_reducible refine Below.drew ?_ | with_reducible refine below_drewN ?_ _ | with_reducible refine Below.alloc ?_ (by first | omega | (simp <;> omega)) _ | with_reducible refine Below.setCell ?_ (by first | omega | (dsimp only; omega) | (simp <;> omega)) _ | with_reducible refine Below.trans ?_ (Below.mono (by assumption) (by first | omega | (simp <;> omega))))))).mono ?_); rintro e w1 ⟨pQ, cQ, rfl, hrQ, hb⟩; have hsz := hb.size; (try simp at hsz)) | (go_at_call 19; (with_reducible refine (q3 _ _ pP _ _ (rA9.later (by repeat' (first | with_reducible exact Below.refl _ _ | with_reducible refine Below.drew ?_ | with_reducible refine below_drewN ?_ _ | with_reducible refine Below.alloc ?_ (by first | omega | (simp <;> omega)) _ | with_reducible refine Below.setCell ?_ (by first | omega | (dsimp only; omega) | (simp <;> omega)) _ | with_reducible refine Below.trans ?_ (Below.mono (by assumption) (by first | omega | (simp <;> omega)))))) (hrP.later (by repeat' (first | with_reducible exact Below.refl _ _ | with_reducible refine Below.drew ?_ | with_reducible refine below_drewN ?_ _ | with_reducible refine Below.alloc ?_ (by first | omega | (simp <;> omega)) _ | with_reducible refine Below.setCell ?_ (by first | omega | (dsimp only; omega) | (simp <;> omega)) _ | with_reducible refine Below.trans ?_ (Below.mono (by assumption) (by first | omega | (simp <;> omega))))))).mono ?_); rintro e w1 ⟨rfl, hb⟩; have hsz := hb.size; (try simp at hsz)) | (go_at_call 19; (with_reducible refine (q4 _ _ pQ _ _ (rA9.later (by repeat' (first | with_reducible exact Below.refl _ _ | with_reducible refine Below.drew ?_ | with_reducible refine below_drewN ?_ _ | with_reducible refine Below.alloc ?_ (by first | omega | (simp <;> omega)) _ | with_reducible refine Below.setCell ?_ (by first | omega | (dsimp only; omega) | (simp <;> omega)) _ | with_reducible refine Below.trans ?_ (Below.mono (by assumption) (by first | omega | (simp <;> omega)))))) (hrQ.later (by repeat' (first | with_reducible exact Below.refl _ _ | with_reducible refine Below.drew ?_ | with_reducible refine below_drewN ?_ _ | with_reducible refine Below.alloc ?_ (by first | omega | (simp <;> omega)) _ | with_reducible refine Below.setCell ?_ (by first | omega | (dsimp only; omega) | (simp <;> omega)) _ | with_reducible refine Below.trans ?_ (Below.mono (by assumption) (by first | omega | (simp <;> omega))))))).mono ?_); rintro e w1 ⟨rfl, hb⟩; have hsz := hb.size; (try simp at hsz)))
              go_light
              refine bodyPost_ret (v := .bool true) (by simp [results, Try.results7, go_sem]) rfl ⟨rfl, ?_⟩
              repeat' (first | with_reducible exact hbw2 | with_reducible refine Below.drew ?_ | with_reducible refine below_drewN ?_ _ | with_reducible refine Below.alloc ?_ (by first | omega | (simp <;> omega)) _ | with_reducible refine Below.setCell ?_ (by first | omega | (dsimp only; omega) | (simp <;> omega)) _ | with_reducible refine Below.trans ?_ (Below.mono (by assumption) (by first | omega | (simp <;> omega))))

theorem least_w (a b : Option Addr) (xs ys : List Int) (ca cb : Nat) (x y : Int) (w : World) (ha : Row .i64 w a xs) (hb : Row .i64 w b ys) (hl : xs.length ≤ 9223372036854775807) (hl2 : ys.length ≤ 9223372036854775807) :
    Calls Try.prog 7 #[.slice a xs.length ca, .slice b ys.length cb, .int .i64 x, .int .i64 y] w fun e w' => e = .returned (.bool true) ∧ Below w.heap.size w w' := by
  obtain ⟨l, d, p, q, best, np, nq, hW⟩ := least_of (made_of xs) ys
  exact least_1 a b xs ys ca cb x y (mdN xs) l d p q best np nq w ha hb hl hl2 rfl (made_of xs) hW
end Go.Proofs.Ytmfgkimbehkdeaa
