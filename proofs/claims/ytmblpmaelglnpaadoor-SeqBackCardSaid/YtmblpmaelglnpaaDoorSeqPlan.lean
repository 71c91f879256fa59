/-
  Plans of divisions, walked.
-/
import Derived.Test.YtmblpmaelglnpaaDoorRows
import Derived.Test.YtmblpmaelglnpaaDoorSeqPlanP
import Derived.Test.YtmblpmaelglnpaaDoorSeqNeeds
import Derived.Test.YtmblpmaelglnpaaDoorGBase
import Derived.Deep.Light
import Derived.Shelf.Abstract
import Derived.Shelf.RegionOpen
import Derived.OwnWalkIn
import Derived.TacticsInMore
import Derived.LoopNIn
import Derived.LoopIn
import Derived.Deep.CutBlock
import Derived.Deep.RegionHeld3
import Derived.Maps.OwnIn
import Derived.Outline
import Derived.IntWalk
import Derived.WalkMore
namespace Go.Proofs.YtmblpmaelglnpaaDoor
open Go.RowKit
set_option linter.unusedSimpArgs false
set_option linter.unusedVariables false
open Go.Shelf
attribute [local go_sem] Oper.semAt_some

/-- What a plan is. -/
def PlanPost (before out : ByteArray) (w : World) (e : Ending) (w' : World) : Prop :=
  ∃ (L D M : List Int) (a1 a2 a3 : Option Addr) (c1 c2 c3 : Nat), e = .returned (.tuple #[.slice a1 L.length c1, .slice a2 D.length c2, .slice a3 M.length c3]) ∧ Row .i64 w' a1 L ∧ Row .i64 w' a2 D ∧ Row .i64 w' a3 M ∧
    L.length ≤ 12 ∧ (∃ f, PlanOk (before ++ out) before.size L D M f) ∧ Below w.heap.size w w'
theorem map_snoc (L : List Int) (x : Int) : (L ++ [x]).map (Value.int .i64) = L.map (Value.int .i64) ++ [.int .i64 x] := by simp
theorem own_ne3 {u v : Value} (h : ∀ g, u.ownBlock = some g → v.ownBlock = some g → False) : v.ownBlock = none ∨ v.ownBlock ≠ u.ownBlock := by
  cases hv : v.ownBlock with
  | none => exact .inl rfl
  | some g => exact .inr fun e => h g e.symm hv
theorem own_lt3 {w : World} {base : Nat} {e : TypeId} {v : Value} {n : Nat} {xs : List Value} {s : Nat} (h : w.ownsRow base e s v n xs) {g : Nat} (hg : v.ownBlock = some g) : g < w.heap.size := by
  rcases h.2 with ⟨rfl, rfl⟩ | ⟨g', cap, cur, rfl, _, hh, _⟩
  · cases hg
  · cases hg; exact (Array.getElem?_eq_some_iff.1 hh).1
theorem own_row3 {w : World} {base : Nat} {e : TypeId} {a : Option Addr} {c n : Nat} {xs : List Int} (h : w.ownsRow base e 1 (.slice a n c) n (xs.map (Value.int .i64))) (hl : xs.length = n) : Row .i64 w a xs := by
  exact Row.of_own_slice h
/-- Three rows of the call's own, apart from one another. -/
def Three (B : Nat) (e : TypeId) (w : World) (v1 v2 v3 : Value) (n1 n2 n3 : Nat) (x1 x2 x3 : List Value) : Prop :=
  (w.ownsRow B e 1 v1 n1 x1 ∧ w.ownsRow B e 1 v2 n2 x2 ∧ w.ownsRow B e 1 v3 n3 x3) ∧ (∀ g, v1.ownBlock = some g → v2.ownBlock = some g → False) ∧ (∀ g, v1.ownBlock = some g → v3.ownBlock = some g → False) ∧ (∀ g, v2.ownBlock = some g → v3.ownBlock = some g → False)
theorem three_nil (B : Nat) (e : TypeId) (w : World) : Three B e w (.slice none 0 0) (.slice none 0 0) (.slice none 0 0) 0 0 0 [] [] [] :=
  ⟨⟨World.ownsRow_nil _ _ _ _, World.ownsRow_nil _ _ _ _, World.ownsRow_nil _ _ _ _⟩, fun g h => by simp [Value.ownBlock] at h, fun g h => by simp [Value.ownBlock] at h, fun g h => by simp [Value.ownBlock] at h⟩
theorem three_later {B : Nat} {e : TypeId} {w w' : World} {v1 v2 v3 : Value} {n1 n2 n3 : Nat} {x1 x2 x3 : List Value} (h : Three B e w v1 v2 v3 n1 n2 n3 x1 x2 x3) (hb : Below w.heap.size w w') : Three B e w' v1 v2 v3 n1 n2 n3 x1 x2 x3 :=
  ⟨⟨ownsRow_later h.1.1 hb, ownsRow_later h.1.2.1 hb, ownsRow_later h.1.2.2 hb⟩, h.2⟩
theorem three_step {B : Nat} {e : TypeId} {w w' : World} {o : Obj} {v1 v2 v3 v : Value} {n1 n2 n3 m : Nat} {x1 x2 x3 xs : List Value} (h : Three B e w v1 v2 v3 n1 n2 n3 x1 x2 x3) (ho : w'.ownsRow B e 1 v m xs)
    (hg : (w.alloc o).grownBy w' v1.ownBlock) (hat : v.ownBlock = v1.ownBlock ∨ v.ownBlock = some (w.alloc o).heap.size) : Three B e w' v2 v3 v n2 n3 m x2 x3 xs := by
  obtain ⟨⟨h1, h2, h3⟩, d12, d13, d23⟩ := h
  have key : ∀ {u : Value} {k : Nat} {ys : List Value}, w.ownsRow B e 1 u k ys → (∀ g, v1.ownBlock = some g → u.ownBlock = some g → False) → ∀ g, u.ownBlock = some g → v.ownBlock = some g → False := by
    intro u k ys hu hd g h4 h5
    rcases hat with h6 | h6
    · exact hd g (h6 ▸ h5) h4
    · have := own_lt3 hu h4
      rw [h5] at h6
      simp at h6
      omega
  exact ⟨⟨(h2.alloc _).kept hg (own_ne3 d12), (h3.alloc _).kept hg (own_ne3 d13), ho⟩, d23, key h2 d12, key h3 d13⟩
set_option maxRecDepth 100000 in
set_option maxHeartbeats 8000000 in
theorem plan_p (before out : ByteArray) (pn : Option Addr) (ns : List Int) (cn : Nat) (w : World) (hn : Row .i64 w pn ns) (nn : ns.length ≤ 9223372036854775807) (hb0 : before.size ≤ 60) (ho0 : out.size ≤ 120) :
    Calls Tryd.prog 35 #[.string before, .string out, .slice pn ns.length cn] w (PlanPost before out w) := by
  obtain ⟨all, hall⟩ : ∃ x, before ++ out = x := ⟨_, rfl⟩
  have hcat : ∀ X, (Op.stringOp .add before out).run Tryd.prog X = .ok (.string all) X := fun X => by rw [← hall]; exact run_string_add_sum X _ _ (by omega)
  have hsz : before.size ≤ all.size ∧ all.size ≤ 180 := by rw [← hall, ByteArray.size_append]; omega
  obtain ⟨hz1', hz2'⟩ := hsz
  have HAL := Lib.hid hall
  clear hall ho0
  obtain ⟨i3, hi3, hz0, hz1, hz2⟩ := info_parts infoInt
  go_enter Tryd.func35, Tryd.ntmps35
  go_wp2
  clear hcat
  go_loopw [6, 7, 8, 10, 11, 12] (fun v6 v7 v8 v10 v11 v12 wr => ∃ (i p f N : Nat) (L D M : List Int) (a1 a2 a3 : Option Addr) (c1 c2 c3 : Nat), v12 = .int .i64 (i : Int) ∧ i ≤ ns.length ∧ i ≤ 12 ∧ v10 = .int .i64 (p : Int) ∧ v11 = .int .i64 (f : Int) ∧ f ≤ p ∧ p ≤ all.size + 3 ∧
      v6 = .slice a1 N c1 ∧ v7 = .slice a2 N c2 ∧ v8 = .slice a3 N c3 ∧ N ≤ i ∧ Hid (L.length = N ∧ D.length = N ∧ M.length = N) ∧ Hid (PlanOk all before.size L D M f) ∧ Hid (Three w.heap.size 3 wr (.slice a1 N c1) (.slice a2 N c2) (.slice a3 N c3) N N N (L.map (Value.int .i64)) (D.map (Value.int .i64)) (M.map (Value.int .i64))) ∧ Below w.heap.size w wr) (fun _ _ _ _ _ v _ => ns.length - (intOf v).toNat)
  case atStart => exact ⟨0, before.size, before.size, 0, [], [], [], none, none, none, 0, 0, 0, rfl, by omega, by omega, rfl, rfl, by omega, by omega, rfl, rfl, rfl, by omega, Lib.hid ⟨rfl, rfl, rfl⟩, Lib.hid (planOk_nil _ _ (by omega)), Lib.hid (three_nil _ _ _), Below.refl _ _⟩
  case round =>
    obtain ⟨i, p, f, N, L, D, M, a1, a2, a3, c1, c2, c3, rfl, hi, hi2, rfl, rfl, hfp, hps, rfl, rfl, rfl, hNi, HLN, HPO, HT, hb⟩ := hrel
    have hbs := hb.size
    by_cases hgo : i < ns.length ∧ i < 12 ∧ p < all.size
    · obtain ⟨hlt, h12, hpa⟩ := hgo
      obtain ⟨b1, o1, rfl, hb1, hc1⟩ := (hn.later hb).at hlt
      have cx := hc1 i hlt
      obtain ⟨nx, hnx⟩ : ∃ x, ns.getD i 0 = x := ⟨_, rfl⟩
      rw [hnx] at cx
      clear hc1 hnx
      obtain ⟨k, hk, hk2⟩ : ∃ k : Nat, nx % 1048576 = (k : Int) ∧ k < 1048576 := ⟨(nx % 1048576).toNat, by omega, by omega⟩
      have qM := fun w => modK nx 1048576 (by omega) (by omega) w
      rw [hk] at qM
      clear hk
      have j1 : decide ((i : Int) < (ns.length : Int)) = true := by simp; omega
      have j2 : decide ((i : Int) < 12) = true := by simp; omega
      have j2n : decide (i < 12) = true := by simp; omega
      have j3 : decide ((p : Int) < (all.size : Int)) = true := by simp; omega
      have j4 : decide (i < ns.length) = true := by simp; omega
      have j5 : decide (p < all.size) = true := by simp; omega
      have i0 : (0 : Int) ≤ (i : Int) := by omega
      have i1 : (i : Int) < (ns.length : Int) := by omega
      obtain ⟨q, hq⟩ : ∃ q, p + k % 4 = q := ⟨_, rfl⟩
      have w1 : IntKind.i64.wrap ((p : Int) + (k : Int) % 4) = (q : Int) := by rw [IntWalk.i64_in _ (by omega)]; omega
      have hk0 : (0 : Int) ≤ (k : Int) := by omega
      have hqb : q ≤ 185 := by omega
      go_upto_region 8 with (go_at_call 21; refine (qM _).mono ?_; rintro en wM ⟨rfl, hbM⟩; have hsM := hbM.size)
      go_cut [14] from 48 to 56 (fun s14 wx => wx = wM ∧ ∃ d : Nat, s14 = .int .i64 (d : Int) ∧ 1 ≤ d ∧ d ≤ 1000)
      case first =>
        clear HLN HPO HT w1 hq j1 j2 j2n j3 j4 j5
        by_cases hqs : q < all.size
        · have n1 : (q : Int) < (all.size : Int) := by omega
          rcases (show q = 0 ∨ 1 ≤ q by omega) with hq0 | hq0
          · subst hq0
            have n2 : (0 : Int) < 1 := by omega
            go_wp2
            go_meet
            exact ⟨rfl, 1, by first | rfl | decide | simp, by omega, by omega⟩
          · have n3 : ¬ (q : Int) < 1 := by omega
            obtain ⟨r, hr⟩ : ∃ r, (k / 4) % (q) = r := ⟨_, rfl⟩
            have hr2 : (k : Int) / 4 % ((q : Nat) : Int) = (r : Int) := by rw [← hr]; simp
            have hr3 : r < 181 := by rw [← hr]; have := Nat.mod_lt (k / 4) (show 0 < q by omega); omega
            have w3 : wrap64 (1 + (r : Int)) = ((1 + r : Nat) : Int) := by rw [IntWalk.wrap64_in _ (by omega)]; omega
            have HR := Lib.hid (And.intro hr2 w3)
            clear hr hr2 w3
            go_wp2
            all_goals
              go_meet
              refine ⟨rfl, 1 + r, ?_, by omega, by omega⟩
              rw [HR.out.1, HR.out.2]
        · have n1 : ¬ (q : Int) < (all.size : Int) := by omega
          have n3 : ¬ (all.size : Int) < 1 := by omega
          have n4 : ¬ (q : Int) < 1 := by omega
          obtain ⟨r, hr⟩ : ∃ r, (k / 4) % (all.size) = r := ⟨_, rfl⟩
          have hr2 : (k : Int) / 4 % ((all.size : Nat) : Int) = (r : Int) := by rw [← hr]; simp
          have hr3 : r < 181 := by rw [← hr]; have := Nat.mod_lt (k / 4) (show 0 < all.size by omega); omega
          have w3 : wrap64 (1 + (r : Int)) = ((1 + r : Nat) : Int) := by rw [IntWalk.wrap64_in _ (by omega)]; omega
          have HR := Lib.hid (And.intro hr2 w3)
          clear hr hr2 w3
          obtain ⟨t, ht⟩ : ∃ t, (k / 4) % q = t := ⟨_, rfl⟩
          have ht2 : (k : Int) / 4 % ((q : Nat) : Int) = (t : Int) := by rw [← ht]; simp
          have ht3 : t < 190 := by rw [← ht]; have := Nat.mod_lt (k / 4) (show 0 < q by omega); omega
          have w3 : wrap64 (1 + (t : Int)) = ((1 + t : Nat) : Int) := by rw [IntWalk.wrap64_in _ (by omega)]; omega
          have HR2 := Lib.hid (And.intro ht2 w3)
          clear ht ht2 w3
          go_wp2
          all_goals
            go_meet
            first
              | (refine ⟨rfl, 1 + r, ?_, by omega, by omega⟩; rw [HR.out.1, HR.out.2])
              | (refine ⟨rfl, 1 + t, ?_, by omega, by omega⟩; rw [HR2.out.1, HR2.out.2])
      case rest =>
        obtain ⟨rfl, d, rfl, hd1, hd2⟩ := hcut
        go_upto_block 2 with (fail)
        obtain ⟨wq, hwq⟩ : ∃ wq : World, wq = wc := ⟨_, rfl⟩
        subst hwq
        have hbM2 : Below w.heap.size w wq := hb.trans (hbM.mono hbs)
        have HT1 := Lib.hid (three_later HT.out hbM)
        have hbs2 := hbM2.size
        obtain ⟨lim, hlim⟩ : ∃ lim, 3 + k / 64 % 20 = lim := ⟨_, rfl⟩
        have hl1 : 3 ≤ lim := by omega
        have hl2 : lim ≤ 22 := by omega
        have w5 : IntKind.i64.wrap (3 + (k : Int) / 64 % 20) = (lim : Int) := by rw [IntWalk.i64_in _ (by omega)]; omega
        have hpq : p ≤ q := by omega
        have hqp : q ≤ p + 3 := by omega
        clear HT hb hbs hbM hsM w1 j1 j2 j2n j3 j4 j5 cx i0 hlim hq
        go_cut [15] from 57 to 92 (fun s15 wx => ∃ n : Nat, s15 = .int .i64 (n : Int) ∧ n ≤ lim ∧ Hid (∀ t, t < n → byt all (q + t) = byt all (q + t - d)) ∧ (0 < n → d ≤ q ∧ q + n ≤ all.size) ∧ Below wq.heap.size wq wx)
        case first =>
          clear HLN HPO HT1 qM hn
          go_wp2_with fail
          go_loopw [15] (fun v wi => ∃ n : Nat, v = .int .i64 (n : Int) ∧ n ≤ lim ∧ Hid (∀ t, t < n → byt all (q + t) = byt all (q + t - d)) ∧ (0 < n → d ≤ q ∧ q + n ≤ all.size) ∧ Below wq.heap.size wq wi) (fun v _ => lim - (intOf v).toNat)
          case atStart => exact ⟨0, rfl, by omega, Lib.hid (fun t ht => by omega), by omega, Below.refl _ _⟩
          case round =>
            obtain ⟨n, rfl, hnl, HE, hnd, hbi⟩ := hrel
            have hbis := hbi.size
            have w6 : IntKind.i64.wrap ((q : Int) + (n : Int)) = ((q + n : Nat) : Int) := by rw [IntWalk.i64_in _ (by omega)]; omega
            obtain ⟨u, hu⟩ : ∃ u, q + n = u := ⟨_, rfl⟩
            rw [hu] at w6
            obtain ⟨v, hv⟩ : ∃ v, u - d = v := ⟨_, rfl⟩
            have HU := Lib.hid hu
            have HV := Lib.hid hv
            by_cases hu1 : u < all.size
            · have g1 : decide ((u : Int) < (all.size : Int)) = true := by simp; omega
              have g1n : decide (u < all.size) = true := by simp; omega
              by_cases hdq : d ≤ q
              · have hvs : v < all.size := by omega
                have w7 : IntKind.i64.wrap ((u : Int) - (d : Int)) = (v : Int) := by rw [IntWalk.i64_in _ (by omega)]; omega
                have g2 : decide ((d : Int) ≤ (q : Int)) = true := by simp; omega
                have g2n : decide (d ≤ q) = true := by simp; omega
                have i5 : (0 : Int) ≤ (u : Int) := by omega
                have i6 : (u : Int) < (all.size : Int) := by omega
                have i7 : (0 : Int) ≤ (v : Int) := by omega
                have i8 : (v : Int) < (all.size : Int) := by omega
                obtain ⟨e1, he1⟩ : ∃ e1 : Nat, (all[u]'hu1).toNat = e1 := ⟨_, rfl⟩
                obtain ⟨e2, he2⟩ : ∃ e2 : Nat, (all[v]'hvs).toNat = e2 := ⟨_, rfl⟩
                have HB1 := Lib.hid (byt_get hu1 he1)
                have HB2 := Lib.hid (byt_get hvs he2)
                clear hu hv
                by_cases hee : e1 = e2
                · have g3 : ((e1 : Int) == (e2 : Int)) = true := by simp; omega
                  have g3n : (e1 == e2) = true := by simp; omega
                  have g3m : e1 = e2 := hee
                  by_cases hnl2 : n < lim
                  · have g4 : decide ((n : Int) < (lim : Int)) = true := by simp; omega
                    have g4n : decide (n < lim) = true := by simp; omega
                    have HEE := Lib.hid hee
                    clear hee g3m
                    go_wp2
                    go_quiet (fail)
                    go_wp2
                    go_roundw
                    case rel =>
                      refine ⟨n + 1, by go_num, by omega, Lib.hid (fun t ht => ?_), fun _ => ⟨hdq, by have := HU.out; omega⟩, below_drewN hbi _⟩
                      by_cases htn : t < n
                      · exact HE.out t htn
                      · obtain rfl : t = n := by omega
                        rw [HU.out, HV.out, HB1.out, HB2.out, HEE.out]
                    case measure => go_light; simp [intOf] <;> omega
                  · have g4 : decide ((n : Int) < (lim : Int)) = false := by simp; omega
                    have g4n : decide (n < lim) = false := by simp; omega
                    clear hee g3m
                    go_wp2
                    go_quiet (fail)
                    go_wp2
                    go_meet
                    exact ⟨n, rfl, hnl, HE, hnd, below_drewN hbi _⟩
                · have g3 : ((e1 : Int) == (e2 : Int)) = false := by simp; omega
                  have g3n : (e1 == e2) = false := by simp; omega
                  clear hee
                  go_wp2
                  go_quiet (fail)
                  go_wp2
                  go_meet
                  exact ⟨n, rfl, hnl, HE, hnd, below_drewN hbi _⟩
              · have g2 : decide ((d : Int) ≤ (q : Int)) = false := by simp; omega
                have g2n : decide (d ≤ q) = false := by simp; omega
                clear hu hv
                go_wp2
                go_quiet (fail)
                go_wp2
                go_meet
                exact ⟨n, rfl, hnl, HE, hnd, below_drewN hbi _⟩
            · have g1 : decide ((u : Int) < (all.size : Int)) = false := by simp; omega
              have g1n : decide (u < all.size) = false := by simp; omega
              clear hu hv
              go_wp2
              go_quiet (fail)
              go_wp2
              go_meet
              exact ⟨n, rfl, hnl, HE, hnd, below_drewN hbi _⟩
        case rest =>
          obtain ⟨n, rfl, hnl, HE, hnd, hbc⟩ := hcut
          have hbcs := hbc.size
          have HT2 := Lib.hid (three_later HT1.out hbc)
          have hb2 : Below w.heap.size w wc := hbM2.trans (hbc.mono hbs2)
          have hbs3 := hb2.size
          clear HT1 hbM2 hbc
          have w6 : IntKind.i64.wrap ((q : Int) + (n : Int)) = ((q + n : Nat) : Int) := by rw [IntWalk.i64_in _ (by omega)]; omega
          by_cases h3 : 3 ≤ n
          · have g5 : decide ((3 : Int) ≤ (n : Int)) = true := by simp; omega
            obtain ⟨d0, hd0⟩ : ∃ d0, q - f = d0 := ⟨_, rfl⟩
            have w8 : IntKind.i64.wrap ((q : Int) - (f : Int)) = (d0 : Int) := by rw [IntWalk.i64_in _ (by omega)]; omega
            obtain ⟨hdq, hqn⟩ := hnd (by omega)
            have HPO2 := Lib.hid (planOk_snoc (p := q) (d := d) (n := n) HPO.out (by omega) (by omega) hd1 hdq (by omega) h3 (by omega) hqn HE.out)
            rw [hd0] at HPO2
            clear HPO HE hnd hd0
            go_wp2_with (first | (at_builtin; refine wpList_append_own_at _ rfl _ _ 44 rfl w.heap.size 3 i3 (.int .i64 0) 1 8 Tryd.underlying44 hi3 hz0 hz1 hz2 rfl (by decide) (.slice a1 N c1) _ _ rfl (HT2.out.1.1.alloc _) ⟨wc.heap.size, 0, none⟩ 1 1 [.int .i64 (d0 : Int)] rfl rfl (cell_one_new _ _ _) (one_int_o _ _) (by unfold maxLen; omega) (by omega) (by simp; omega) ?_; intro v1 w4 ho1 hg1 hnil1 hat1; obtain ⟨a1', c1', rfl⟩ := own_slice_o ho1; have hs1 := hg1.size; (simp at hs1); have HT4 := Lib.hid (three_step HT2.out ho1 hg1 hat1); have hb4 : Below w.heap.size w w4 := (hb2.alloc (by omega) _).grown hg1 (by simp; omega) (own_base_o HT2.out.1.1); have hbs4 := hb4.size; clear ho1 hat1 hg1 hnil1 HT2) | (at_builtin; refine wpList_append_own_at _ rfl _ _ 44 rfl w.heap.size 3 i3 (.int .i64 0) 1 8 Tryd.underlying44 hi3 hz0 hz1 hz2 rfl (by decide) (.slice a2 N c2) _ _ rfl (HT4.out.1.1.alloc _) ⟨w4.heap.size, 0, none⟩ 1 1 [.int .i64 (d : Int)] rfl rfl (cell_one_new _ _ _) (one_int_o _ _) (by unfold maxLen; omega) (by omega) (by simp; omega) ?_; intro v2 w5 ho2 hg2 hnil2 hat2; obtain ⟨a2', c2', rfl⟩ := own_slice_o ho2; have hs2 := hg2.size; (simp at hs2); have HT5 := Lib.hid (three_step HT4.out ho2 hg2 hat2); have hb5 : Below w.heap.size w w5 := (hb4.alloc (by omega) _).grown hg2 (by simp; omega) (own_base_o HT4.out.1.1); have hbs5 := hb5.size; clear ho2 hat2 hg2 hnil2 HT4) | (at_builtin; refine wpList_append_own_at _ rfl _ _ 44 rfl w.heap.size 3 i3 (.int .i64 0) 1 8 Tryd.underlying44 hi3 hz0 hz1 hz2 rfl (by decide) (.slice a3 N c3) _ _ rfl (HT5.out.1.1.alloc _) ⟨w5.heap.size, 0, none⟩ 1 1 [.int .i64 (n : Int)] rfl rfl (cell_one_new _ _ _) (one_int_o _ _) (by unfold maxLen; omega) (by omega) (by simp; omega) ?_; intro v3 w6 ho3 hg3 hnil3 hat3; obtain ⟨a3', c3', rfl⟩ := own_slice_o ho3; have hs3 := hg3.size; (simp at hs3); have HT6 := Lib.hid (three_step HT5.out ho3 hg3 hat3); have hb6 : Below w.heap.size w w6 := (hb5.alloc (by omega) _).grown hg3 (by simp; omega) (own_base_o HT5.out.1.1); have hbs6 := hb6.size; clear ho3 hat3 hg3 hnil3 HT5))
            go_roundw
            case rel =>
              refine ⟨i + 1, q + n, q + n, N + 1, _, _, _, a1', a2', a3', c1', c2', c3', by go_num, by omega, by omega, rfl, rfl, by omega, by omega, rfl, rfl, rfl, by omega, ?_, HPO2, ?_, hb6⟩
              · refine Lib.hid ?_
                obtain ⟨e1, e2, e3⟩ := HLN.out
                simp [e1, e2, e3]
              · refine Lib.hid ?_
                rw [map_snoc, map_snoc, map_snoc]
                exact HT6.out
            case measure => go_light; simp [intOf] <;> omega
          · have g5 : decide ((3 : Int) ≤ (n : Int)) = false := by simp; omega
            go_wp2
            go_roundw
            case rel => exact ⟨i + 1, q, f, N, L, D, M, a1, a2, a3, c1, c2, c3, by go_num, by omega, by omega, rfl, rfl, by omega, by omega, rfl, rfl, rfl, by omega, HLN, HPO, HT2, hb2⟩
            case measure => go_light; simp [intOf] <;> omega
    · have fin : PlanPost before out w (.returned (.tuple #[.slice a1 N c1, .slice a2 N c2, .slice a3 N c3])) wr := by
        obtain ⟨e1, e2, e3⟩ := HLN.out
        refine ⟨L, D, M, a1, a2, a3, c1, c2, c3, by rw [e1, e2, e3], own_row3 HT.out.1.1 e1, own_row3 HT.out.1.2.1 e2, own_row3 HT.out.1.2.2 e3, by omega, ⟨f, by rw [HAL.out]; exact HPO.out⟩, hb⟩
      by_cases hlt : i < ns.length
      · have j1 : decide ((i : Int) < (ns.length : Int)) = true := by simp; omega
        have j4 : decide (i < ns.length) = true := by simp; omega
        by_cases h12 : i < 12
        · have j2 : decide ((i : Int) < 12) = true := by simp; omega
          have j2n : decide (i < 12) = true := by simp; omega
          have j3 : decide ((p : Int) < (all.size : Int)) = false := by simp; omega
          have j5 : decide (p < all.size) = false := by simp; omega
          have HF := Lib.hid fin
          clear fin HLN HPO HT hgo
          go_wp2
          go_ret3
          exact HF.out
        · have j2 : decide ((i : Int) < 12) = false := by simp; omega
          have j2n : decide (i < 12) = false := by simp; omega
          have HF := Lib.hid fin
          clear fin HLN HPO HT hgo
          go_wp2
          go_ret3
          exact HF.out
      · have j1 : decide ((i : Int) < (ns.length : Int)) = false := by simp; omega
        have j4 : decide (i < ns.length) = false := by simp; omega
        have HF := Lib.hid fin
        clear fin HLN HPO HT hgo
        go_wp2
        go_ret3
        exact HF.out
end Go.Proofs.YtmblpmaelglnpaaDoor
