/-
  The heap of nodes at work: its methods by the trees that it holds; sifting up and down, walked.
-/
import Derived.Test.YtmfgkimbehkdeaaRows
import Derived.Test.YtmfgkimbehkdeaaHufMeth
import Derived.Test.YtmfgkimbehkdeaaHufCmp
import Derived.Test.YtmfgkimbehkdeaaGBase
import Derived.Deep.Light
import Derived.Shelf.Abstract
import Derived.Shelf.RegionOpen
import Derived.OwnWalkIn
import Derived.TacticsInMore
import Derived.LoopNIn
import Derived.LoopIn
namespace Go.Proofs.Ytmfgkimbehkdeaa
open Go.RowKit
set_option linter.unusedSimpArgs false
set_option linter.unusedVariables false
attribute [local go_sem] Oper.semAt_some mLen mLess mSwap mPush mPop
/-- The heap's box H holds n cells of the block g, which point at the trees of l. -/
structure HAt (H g n cap : Nat) (l : List (Nat × HT)) (w : World) : Prop where
  blk : Blk w H 46 [.slice (some ⟨g, 0, none⟩) n cap]
  row : ∃ vs, Blk w g 48 vs ∧ vs.length = cap ∧ vs.take n = l.map ptr
  len : l.length = n
  hcap : n ≤ cap
  hmax : cap ≤ maxLen
  reps : Reps 50 w l
  ne : H ≠ g
theorem HAt.box {H g n cap : Nat} {l : List (Nat × HT)} {w : World} (h : HAt H g n cap l w) : w.cell? ⟨H, 0, none⟩ = some (.slice (some ⟨g, 0, none⟩) n cap) := h.blk.cell 0
theorem HAt.boxf {H g n cap : Nat} {l : List (Nat × HT)} {w : World} (h : HAt H g n cap l w) : w.frozen? ⟨H, 0, none⟩ = false := h.blk.frozen 0
theorem NK.of_but {NT : TypeId} {g : Nat} {X Y : World} (h : But (fun k => k = g) X Y) {t : TypeId} {vs : List Value} (hg : Blk X g t vs) (hn : t ≠ NT) : NK NT X Y := by
  intro B us hb
  refine h.block B _ ?_ hb
  rintro rfl
  unfold Blk at hg hb
  rw [hg] at hb
  simp at hb
  exact hn hb.2
theorem HAt.later {H g n cap : Nat} {l : List (Nat × HT)} {X Y : World} (h : HAt H g n cap l X) (hb : Below X.heap.size X Y) : HAt H g n cap l Y := by
  obtain ⟨vs, h1, h2, h3⟩ := h.row
  exact ⟨h.blk.later hb, ⟨vs, h1.later hb, h2, h3⟩, h.len, h.hcap, h.hmax, h.reps.nk (NK.of_below hb), h.ne⟩
theorem HAt.at {H g n cap : Nat} {l : List (Nat × HT)} {w : World} (h : HAt H g n cap l w) {i : Nat} {x : Nat × HT} (hi : l[i]? = some x) : i < n ∧ w.cell? ⟨g, 0 + i, none⟩ = some (ptr x) ∧ w.frozen? ⟨g, 0 + i, none⟩ = false ∧
    w.cell? ⟨x.1, 0, none⟩ = some (.int .i64 (x.2.cnt : Int)) ∧ w.cell? ⟨x.1, 1, none⟩ = some (.int .i64 (x.2.sym : Int)) ∧ w.cell? ⟨x.1, 2, none⟩ = some (.int .i64 (x.2.age : Int)) := by
  obtain ⟨vs, h1, h2, h3⟩ := h.row
  have hlt := (List.getElem?_eq_some_iff.1 hi).1
  rw [h.len] at hlt
  obtain ⟨p, q, hk⟩ := (h.reps x (List.mem_of_getElem? hi)).key
  refine ⟨hlt, ?_, h1.frozen _, hk.cell 0, hk.cell 1, hk.cell 2⟩
  rw [h1.cell, Nat.zero_add]
  have : (vs.take n)[i]? = (l.map ptr)[i]? := by rw [h3]
  rw [List.getElem?_take, if_pos hlt, List.getElem?_map, hi] at this
  exact this
theorem orI_neg (a b c : Int) : orI a b c < 0 ↔ a < 0 ∨ (a = 0 ∧ (b < 0 ∨ (b = 0 ∧ c < 0))) := by
  unfold orI
  split
  · omega
  · split <;> omega
theorem cmpI_neg (x y : Int) : cmpI x y < 0 ↔ x < y := by
  unfold cmpI
  split
  · omega
  · split <;> omega
theorem cmpI_zero (x y : Int) : cmpI x y = 0 ↔ x = y := by
  unfold cmpI
  split
  · omega
  · split <;> omega
theorem befI_klt (x y : HT) : befI (x.cnt : Int) (x.age : Int) (x.sym : Int) (y.cnt : Int) (y.age : Int) (y.sym : Int) = decide (klt x y) := by
  unfold befI
  rw [decide_eq_decide, orI_neg, cmpI_neg, cmpI_neg, cmpI_neg, cmpI_zero, cmpI_zero]
  unfold klt
  omega
theorem less_h {H g n cap : Nat} {l : List (Nat × HT)} {w : World} (h : HAt H g n cap l w) {i j : Nat} {x y : Nat × HT} (hi : l[i]? = some x) (hj : l[j]? = some y) :
    Calls Try.prog 69 #[.slice (some ⟨g, 0, none⟩) n cap, .int .i64 (i : Int), .int .i64 (j : Int)] w fun e w' => e = .returned (.bool (decide (klt x.2 y.2))) ∧ Below w.heap.size w w' := by
  obtain ⟨a1, a2, a3, a4, a5, a6⟩ := h.at hi
  obtain ⟨b1, b2, b3, b4, b5, b6⟩ := h.at hj
  have := less_p g 0 n cap i j x.1 y.1 x.2.cnt x.2.age x.2.sym y.2.cnt y.2.age y.2.sym w a1 b1 ⟨a2, b2, a4, a5, a6, b4, b5, b6⟩
  rw [befI_klt] at this
  exact this
theorem HAt.swap {H g n cap : Nat} {l : List (Nat × HT)} {w w' : World} (h : HAt H g n cap l w) {i j : Nat} {x y : Nat × HT} (hi : l[i]? = some x) (hj : l[j]? = some y)
    (hw : w' = (w.setCell ⟨g, 0 + i, none⟩ (ptr y)).setCell ⟨g, 0 + j, none⟩ (ptr x)) : HAt H g n cap (swp l i j x y) w' ∧ But (fun k => k = g) w w' := by
  obtain ⟨vs, h1, h2, h3⟩ := h.row
  have hb : But (fun k => k = g) w w' := by
    rw [hw]
    exact (But.setCell (S := fun k => k = g) w (a := ⟨g, 0 + i, none⟩) (ptr y) rfl).trans (But.setCell (S := fun k => k = g) _ (a := ⟨g, 0 + j, none⟩) (ptr x) rfl)
  refine ⟨⟨hb.block _ _ h.ne h.blk, ⟨(vs.set (0 + i) (ptr y)).set (0 + j) (ptr x), ?_, by simpa using h2, ?_⟩, by rw [swp_length]; exact h.len, h.hcap, h.hmax, h.reps.nk (NK.of_but hb h1 (by decide)) |>.perm (swp_perm hi hj).symm, h.ne⟩, hb⟩
  · rw [hw]
    exact (h1.set _ _).set _ _
  · rw [List.take_set, List.take_set, h3, Nat.zero_add, Nat.zero_add]
    unfold swp
    rw [List.map_set, List.map_set]
theorem HAt.drew {H g n cap : Nat} {l : List (Nat × HT)} {w : World} (h : HAt H g n cap l w) : HAt H g n cap l w.drew := h.later (Below.refl _ _).drew
theorem swap_h {H g n cap : Nat} {l : List (Nat × HT)} {w : World} (h : HAt H g n cap l w) {i j : Nat} {x y : Nat × HT} (hi : l[i]? = some x) (hj : l[j]? = some y) :
    Calls Try.prog 72 #[.slice (some ⟨g, 0, none⟩) n cap, .int .i64 (i : Int), .int .i64 (j : Int)] w fun e w' => e = .returned (.tuple #[]) ∧ HAt H g n cap (swp l i j x y) w' ∧ But (fun k => k = g) w w' := by
  obtain ⟨a1, a2, a3, _⟩ := h.at hi
  obtain ⟨b1, b2, b3, _⟩ := h.at hj
  have fin : ∀ W, HAt H g n cap (swp l i j x y) W ∧ But (fun k => k = g) w W → HAt H g n cap (swp l i j x y) W.drew ∧ But (fun k => k = g) w W.drew := fun W hW =>
    ⟨hW.1.drew, hW.2.trans (But.of_below (Below.refl _ _).drew)⟩
  by_cases e : i = j
  · subst e
    rw [hi] at hj
    cases hj
    refine (swap_same g 0 n cap i _ w a1 a2 a3).mono ?_
    rintro e w' ⟨rfl, rfl⟩
    exact ⟨rfl, fin _ (h.swap hi hi rfl)⟩
  · refine (swap_p g 0 n cap i j _ _ w a1 b1 e a2 b2 a3 b3).mono ?_
    rintro en w' ⟨rfl, rfl | rfl⟩
    · exact ⟨rfl, fin _ (h.swap hi hj rfl)⟩
    · refine ⟨rfl, fin _ ?_⟩
      have k1 := h.swap (w' := (w.setCell ⟨g, 0 + j, none⟩ (ptr x)).setCell ⟨g, 0 + i, none⟩ (ptr y)) hj hi rfl
      have e2 : swp l j i y x = swp l i j x y := by
        unfold swp
        exact List.set_comm _ _ (fun h => e h.symm)
      rw [e2] at k1
      exact k1
/-- What sifting leaves. -/
def SiftPost (v : Value) (H g n cap : Nat) (l : List (Nat × HT)) (m : Nat) (w : World) (e : Ending) (w' : World) : Prop :=
  e = .returned v ∧ ∃ l', HAt H g n cap l' w' ∧ l'.Perm l ∧ HeapN plt l' m ∧ But (fun k => k = g) w w'
set_option maxHeartbeats 1000000 in
theorem up_p (H g n cap j : Nat) (l : List (Nat × HT)) (w : World) (hA : HAt H g n cap l w) (hU : UpInv plt l j) (hj : j < n) (hn : n < 100000) :
    Calls Try.prog 48 #[.iface 44 (.pointer (some ⟨H, 0, none⟩)), .int .i64 (j : Int)] w (SiftPost (.tuple #[]) H g n cap l n w) := by
  have HU := Lib.hid hU
  clear hU
  go_enter Try.func48, Try.ntmps48
  go_wp2
  go_loopw [1] (fun v wr => ∃ (j : Nat) (l' : List (Nat × HT)), v = .int .i64 (j : Int) ∧ j < n ∧ HAt H g n cap l' wr ∧ Hid (UpInv plt l' j) ∧ l'.Perm l ∧ But (fun k => k = g) w wr) (fun v _ => (intOf v).toNat)
  case atStart => exact ⟨j, l, rfl, hj, hA, HU, List.Perm.refl _, But.refl _ _⟩
  case round =>
    clear HU hA hj j
    obtain ⟨j, l', rfl, hj, hA, HU, hP, hB⟩ := hrel
    have hbox := hA.box
    obtain ⟨x, hx⟩ : ∃ x, l'[j]? = some x := ⟨_, List.getElem?_eq_getElem (by rw [hA.len]; exact hj)⟩
    have HX := Lib.hid hx
    clear hx
    by_cases h0 : j = 0
    · subst h0
      have HF := Lib.hid (up_done HU.out (.inl rfl) n)
      go_wp2
      exact bodyPost_end (results_none rfl _ _ _) rfl ⟨rfl, l', hA, hP, HF.out, hB⟩
    · obtain ⟨p, hp⟩ : ∃ p, (j - 1) / 2 = p := ⟨_, rfl⟩
      obtain ⟨y, hy⟩ : ∃ y, l'[p]? = some y := ⟨_, List.getElem?_eq_getElem (by rw [hA.len]; omega)⟩
      have HY := Lib.hid hy
      have HPJ := Lib.hid hp
      have j1 : (1 : Int) ≤ (j : Int) := by omega
      have j2 : (0 : Int) ≤ (j : Int) - 1 := by omega
      have j3 : ((j : Int) - 1) / 2 = (p : Int) := by omega
      have j4 : ((p : Int) == (j : Int)) = false := by simp; omega
      have j5 : p < n := by omega
      clear hp hy
      have ql := fun W (hW : HAt H g n cap l' W) => less_h hW HX.out HY.out
      by_cases hk : klt x.2 y.2
      · have qs := fun W (hW : HAt H g n cap l' W) => swap_h hW HY.out HX.out
        have HU2 := Lib.hid (up_step plt_ord HU.out (by omega) HX.out (by rw [HPJ.out]; exact HY.out) hk)
        rw [HPJ.out] at HU2
        have HP2 := Lib.hid ((swp_perm HY.out HX.out).trans hP)
        rw [decide_eq_true hk] at ql
        clear hP
        generalize swp l' p j y x = l2 at qs HU2 HP2
        go_wp2_with (first | (go_at_call 69; (with_reducible refine (ql _ hA).mono ?_); rintro e w1 ⟨rfl, hb1⟩; replace hA := hA.later hb1; have hbox1 := hA.box; replace hB := hB.trans (But.of_below hb1)) | (go_at_call 72; (with_reducible refine (qs _ hA).mono ?_); rintro e w2 ⟨rfl, hA2, hB2⟩; replace hB := hB.trans hB2))
        go_roundw
        case rel => exact ⟨p, l2, rfl, j5, hA2, HU2, HP2.out, hB⟩
        case measure => simp [intOf]; omega
      · have HF := Lib.hid (up_done HU.out (.inr (fun a b ha hb => by rw [HX.out] at ha; rw [HPJ.out, HY.out] at hb; cases ha; cases hb; exact hk)) n)
        rw [decide_eq_false hk] at ql
        go_wp2_with (go_at_call 69; (with_reducible refine (ql _ hA).mono ?_); rintro e w1 ⟨rfl, hb1⟩; replace hA := hA.later hb1; have hbox1 := hA.box; replace hB := hB.trans (But.of_below hb1))
        exact bodyPost_end (results_none rfl _ _ _) rfl ⟨rfl, l', hA, hP, HF.out, hB⟩
/-! Sifting down -/
def DownPost (H g n cap : Nat) (l : List (Nat × HT)) (m : Nat) (w : World) (e : Ending) (w' : World) : Prop :=
  ∃ b, e = .returned (.bool b) ∧ ∃ l', HAt H g n cap l' w' ∧ l'.Perm l ∧ HeapN plt l' m ∧ l'[m]? = l[m]? ∧ But (fun k => k = g) w w'
set_option maxHeartbeats 2000000 in
theorem down_p (H g n cap m : Nat) (l : List (Nat × HT)) (w : World) (hA : HAt H g n cap l w) (hU : DnInv plt l m 0) (hm : m < n) (hn : n < 100000) :
    Calls Try.prog 49 #[.iface 44 (.pointer (some ⟨H, 0, none⟩)), .int .i64 0, .int .i64 (m : Int)] w (DownPost H g n cap l m w) := by
  have HU := Lib.hid hU
  clear hU
  go_enter Try.func49, Try.ntmps49
  go_wp2
  go_loopw [7] (fun v wr => ∃ (i : Nat) (l' : List (Nat × HT)), v = .int .i64 (i : Int) ∧ i < n ∧ HAt H g n cap l' wr ∧ Hid (DnInv plt l' m i) ∧ l'.Perm l ∧ Hid (l'[m]? = l[m]?) ∧ But (fun k => k = g) w wr) (fun v _ => n - (intOf v).toNat)
  case atStart => exact ⟨0, l, rfl, by omega, hA, HU, List.Perm.refl _, Lib.hid rfl, But.refl _ _⟩
  case round =>
    clear HU hA
    obtain ⟨i, l', rfl, hi, hA, HU, hP, HM, hB⟩ := hrel
    have hbox := hA.box
    obtain ⟨x, hx⟩ : ∃ x, l'[i]? = some x := ⟨_, List.getElem?_eq_getElem (by rw [hA.len]; exact hi)⟩
    have HX := Lib.hid hx
    clear hx
    obtain ⟨a, ha⟩ : ∃ a, 2 * i + 1 = a := ⟨_, rfl⟩
    have i0 : (0 : Int) ≤ (i : Int) := by omega
    have i1 : (0 : Int) ≤ 2 * (i : Int) := by omega
    have i2 : 2 * (i : Int) < 400000 := by omega
    have i3 : 2 * (i : Int) + 1 = (a : Int) := by omega
    have i4 : ¬ (a : Int) < 0 := by omega
    have HA1 := Lib.hid ha
    clear ha
    by_cases h1 : m ≤ a
    · have h1' : (m : Int) ≤ (a : Int) := by omega
      have HF := Lib.hid (dn_end HU.out (by rw [HA1.out]; exact h1))
      go_wp2
      exact bodyPost_ret (v := .bool _) (by simp [results, Try.results49, go_sem]; first | done | exact rfl) rfl ⟨_, rfl, l', hA, hP, HF.out, HM.out, hB⟩
    · have hlen := hA.len
      obtain ⟨y, hy⟩ : ∃ y, l'[a]? = some y := ⟨_, List.getElem?_eq_getElem (by omega)⟩
      have HY := Lib.hid hy
      clear hy
      have h1' : (a : Int) < (m : Int) := by omega
      have h1'' : a < m := by omega
      obtain ⟨b, hb⟩ : ∃ b, a + 1 = b := ⟨_, rfl⟩
      have i5 : (a : Int) + 1 = (b : Int) := by omega
      have HB1 := Lib.hid hb
      clear hb
      by_cases h2 : b < m
      · obtain ⟨u, hu⟩ : ∃ u, l'[b]? = some u := ⟨_, List.getElem?_eq_getElem (by omega)⟩
        have HV := Lib.hid hu
        clear hu hlen
        have h2' : (b : Int) < (m : Int) := by omega
        have qb := fun W (hW : HAt H g n cap l' W) => less_h hW HV.out HY.out
        by_cases hk2 : klt u.2 y.2
        · rw [decide_eq_true hk2] at qb
          have HC : Hid (Child plt l' m i b u) := Lib.hid ⟨by have := HA1.out; have := HB1.out; omega, by have := HB1.out; omega, h2, HV.out, fun c z c0 c1 c2 hz => by
            have e1 := HA1.out
            have e2 := HB1.out
            rcases Nat.lt_or_ge c b with h | h
            · have : c = a := by omega
              subst this
              rw [HY.out] at hz
              cases hz
              exact plt_ord.asym _ _ hk2
            · have : c = b := by omega
              subst this
              rw [HV.out] at hz
              cases hz
              exact fun hh => plt_ord.asym _ _ hh hh⟩
          obtain ⟨z, rfl⟩ : ∃ z, z = u := ⟨_, rfl⟩
          have HJ := HV
          have qk := fun W (hW : HAt H g n cap l' W) => less_h hW HJ.out HX.out
          by_cases hk : klt z.2 x.2
          · have qs := fun W (hW : HAt H g n cap l' W) => swap_h hW HX.out HJ.out
            have HU2 := Lib.hid (dn_step plt_ord HU.out HC.out HX.out hk)
            have HP2 := Lib.hid ((swp_perm HX.out HJ.out).trans hP)
            have HM2 : Hid ((swp l' i b x z)[m]? = l[m]?) := Lib.hid (by have e1 := HA1.out; rw [swp_at HX.out HJ.out, if_neg (by omega), if_neg (by omega)]; exact HM.out)
            rw [decide_eq_true hk] at qk
            clear hP
            generalize swp l' i b x z = l2 at qs HU2 HP2 HM2
            go_wp2_with (first | (go_at_call 69; (with_reducible refine (qk _ hA).mono ?_); rintro e w1 ⟨rfl, hb1⟩; replace hA := hA.later hb1; have hbox1 := hA.box; replace hB := hB.trans (But.of_below hb1)) | (go_at_call 69; (with_reducible refine (qb _ hA).mono ?_); rintro e w1 ⟨rfl, hb1⟩; replace hA := hA.later hb1; have hbox1 := hA.box; replace hB := hB.trans (But.of_below hb1)) | (go_at_call 72; (with_reducible refine (qs _ hA).mono ?_); rintro e w2 ⟨rfl, hA2, hB2⟩; replace hB := hB.trans hB2))
            go_roundw
            case rel => exact ⟨b, l2, rfl, by omega, hA2, HU2, HP2.out, HM2, hB⟩
            case measure => simp [intOf]; omega
          · have HF := Lib.hid (dn_done plt_ord HU.out HC.out HX.out hk)
            rw [decide_eq_false hk] at qk
            go_wp2_with (first | (go_at_call 69; (with_reducible refine (qk _ hA).mono ?_); rintro e w1 ⟨rfl, hb1⟩; replace hA := hA.later hb1; have hbox1 := hA.box; replace hB := hB.trans (But.of_below hb1)) | (go_at_call 69; (with_reducible refine (qb _ hA).mono ?_); rintro e w1 ⟨rfl, hb1⟩; replace hA := hA.later hb1; have hbox1 := hA.box; replace hB := hB.trans (But.of_below hb1)))
            exact bodyPost_ret (v := .bool _) (by simp [results, Try.results49, go_sem]; first | done | exact rfl) rfl ⟨_, rfl, l', hA, hP, HF.out, HM.out, hB⟩
        · rw [decide_eq_false hk2] at qb
          have HC : Hid (Child plt l' m i a y) := Lib.hid ⟨by have := HA1.out; omega, by have := HA1.out; omega, h1'', HY.out, fun c z c0 c1 c2 hz => by
            have e1 := HA1.out
            have e2 := HB1.out
            rcases Nat.lt_or_ge c b with h | h
            · have : c = a := by omega
              subst this
              rw [HY.out] at hz
              cases hz
              exact fun hh => plt_ord.asym _ _ hh hh
            · have : c = b := by omega
              subst this
              rw [HV.out] at hz
              cases hz
              exact hk2⟩
          obtain ⟨z, rfl⟩ : ∃ z, z = y := ⟨_, rfl⟩
          have HJ := HY
          have qk := fun W (hW : HAt H g n cap l' W) => less_h hW HJ.out HX.out
          by_cases hk : klt z.2 x.2
          · have qs := fun W (hW : HAt H g n cap l' W) => swap_h hW HX.out HJ.out
            have HU2 := Lib.hid (dn_step plt_ord HU.out HC.out HX.out hk)
            have HP2 := Lib.hid ((swp_perm HX.out HJ.out).trans hP)
            have HM2 : Hid ((swp l' i a x z)[m]? = l[m]?) := Lib.hid (by have e1 := HA1.out; rw [swp_at HX.out HJ.out, if_neg (by omega), if_neg (by omega)]; exact HM.out)
            rw [decide_eq_true hk] at qk
            clear hP
            generalize swp l' i a x z = l2 at qs HU2 HP2 HM2
            go_wp2_with (first | (go_at_call 69; (with_reducible refine (qk _ hA).mono ?_); rintro e w1 ⟨rfl, hb1⟩; replace hA := hA.later hb1; have hbox1 := hA.box; replace hB := hB.trans (But.of_below hb1)) | (go_at_call 69; (with_reducible refine (qb _ hA).mono ?_); rintro e w1 ⟨rfl, hb1⟩; replace hA := hA.later hb1; have hbox1 := hA.box; replace hB := hB.trans (But.of_below hb1)) | (go_at_call 72; (with_reducible refine (qs _ hA).mono ?_); rintro e w2 ⟨rfl, hA2, hB2⟩; replace hB := hB.trans hB2))
            go_roundw
            case rel => exact ⟨a, l2, rfl, by omega, hA2, HU2, HP2.out, HM2, hB⟩
            case measure => simp [intOf]; omega
          · have HF := Lib.hid (dn_done plt_ord HU.out HC.out HX.out hk)
            rw [decide_eq_false hk] at qk
            go_wp2_with (first | (go_at_call 69; (with_reducible refine (qk _ hA).mono ?_); rintro e w1 ⟨rfl, hb1⟩; replace hA := hA.later hb1; have hbox1 := hA.box; replace hB := hB.trans (But.of_below hb1)) | (go_at_call 69; (with_reducible refine (qb _ hA).mono ?_); rintro e w1 ⟨rfl, hb1⟩; replace hA := hA.later hb1; have hbox1 := hA.box; replace hB := hB.trans (But.of_below hb1)))
            exact bodyPost_ret (v := .bool _) (by simp [results, Try.results49, go_sem]; first | done | exact rfl) rfl ⟨_, rfl, l', hA, hP, HF.out, HM.out, hB⟩
      · have h2' : ¬ (b : Int) < (m : Int) := by omega
        have HC : Hid (Child plt l' m i a y) := Lib.hid ⟨by have := HA1.out; omega, by have := HA1.out; omega, h1'', HY.out, fun c z c0 c1 c2 hz => by
          have e1 := HA1.out
          have e2 := HB1.out
          have : c = a := by omega
          subst this
          rw [HY.out] at hz
          cases hz
          exact fun hh => plt_ord.asym _ _ hh hh⟩
        clear hlen
        obtain ⟨z, rfl⟩ : ∃ z, z = y := ⟨_, rfl⟩
        have HJ := HY
        have qk := fun W (hW : HAt H g n cap l' W) => less_h hW HJ.out HX.out
        by_cases hk : klt z.2 x.2
        · have qs := fun W (hW : HAt H g n cap l' W) => swap_h hW HX.out HJ.out
          have HU2 := Lib.hid (dn_step plt_ord HU.out HC.out HX.out hk)
          have HP2 := Lib.hid ((swp_perm HX.out HJ.out).trans hP)
          have HM2 : Hid ((swp l' i a x z)[m]? = l[m]?) := Lib.hid (by have e1 := HA1.out; rw [swp_at HX.out HJ.out, if_neg (by omega), if_neg (by omega)]; exact HM.out)
          rw [decide_eq_true hk] at qk
          clear hP
          generalize swp l' i a x z = l2 at qs HU2 HP2 HM2
          go_wp2_with (first | (go_at_call 69; (with_reducible refine (qk _ hA).mono ?_); rintro e w1 ⟨rfl, hb1⟩; replace hA := hA.later hb1; have hbox1 := hA.box; replace hB := hB.trans (But.of_below hb1)) | (go_at_call 72; (with_reducible refine (qs _ hA).mono ?_); rintro e w2 ⟨rfl, hA2, hB2⟩; replace hB := hB.trans hB2))
          go_roundw
          case rel => exact ⟨a, l2, rfl, by omega, hA2, HU2, HP2.out, HM2, hB⟩
          case measure => simp [intOf]; omega
        · have HF := Lib.hid (dn_done plt_ord HU.out HC.out HX.out hk)
          rw [decide_eq_false hk] at qk
          go_wp2_with (first | (go_at_call 69; (with_reducible refine (qk _ hA).mono ?_); rintro e w1 ⟨rfl, hb1⟩; replace hA := hA.later hb1; have hbox1 := hA.box; replace hB := hB.trans (But.of_below hb1)))
          exact bodyPost_ret (v := .bool _) (by simp [results, Try.results49, go_sem]; first | done | exact rfl) rfl ⟨_, rfl, l', hA, hP, HF.out, HM.out, hB⟩
end Go.Proofs.Ytmfgkimbehkdeaa
