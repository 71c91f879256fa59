/-
  The statements' helpers that make distances, literals and sequences, walked.
-/
import Derived.Test.YtenhglamnpmkaaaRows
import Derived.Test.YtenhglamnpmkaaaRepsRunIter
import Derived.Test.YtenhglamnpmkaaaOwnMore
import Derived.Test.YtenhglamnpmkaaaRepsKit
import Derived.WalkMore
import Derived.Test.YtenhglamnpmkaaaCommon
import Derived.Deep.Light
import Derived.Shelf.Abstract
import Derived.Shelf.RegionOpen
import Derived.OwnWalkIn
import Derived.TacticsInMore
import Derived.LoopNIn
import Derived.LoopIn
import Derived.Maps.OwnIn
namespace Go.Proofs.Ytenhglamnpmkaaa
open Go.RowKit
set_option linter.unusedSimpArgs false
set_option linter.unusedVariables false
open Go.Shelf
attribute [local go_sem] Oper.semAt_some

/-- A distance and literals made of a number. -/
def gdk (k : Int) : Int := if k / 14 % 5 = 0 then 1 + k / 70 else 1 + k / 2 % 7
def glk (k : Int) : Int := k % 2 * (1 + k / 3 % 9)
def gd (n : Int) : Int := gdk (n % 1073741824)
def gl (n : Int) : Int := glk (n % 1073741824)
def gds (xs : List Int) : List Int := (xs.take 20).map gd
def gls (xs : List Int) : List Int := (xs.take 20).map gl
theorem take_map_succ (g : Int → Int) (xs : List Int) (i : Nat) (h : i < xs.length) : ((xs.take (i + 1)).map g).map (Value.int .i64) = ((xs.take i).map g).map (Value.int .i64) ++ [.int .i64 (g (xs.getD i 0))] := by
  rw [List.take_succ_eq_append_getElem h, List.map_append, List.map_append]
  simp [h]
theorem own_ne {u v : Value} (h : ∀ g, u.ownBlock = some g → v.ownBlock = some g → False) : v.ownBlock = none ∨ v.ownBlock ≠ u.ownBlock := by
  cases hv : v.ownBlock with
  | none => exact .inl rfl
  | some g => exact .inr fun e => h g e.symm hv
theorem own_lt_o {w : World} {base : Nat} {e : TypeId} {v : Value} {n : Nat} {xs : List Value} {s : Nat} (h : w.ownsRow base e s v n xs) {g : Nat} (hg : v.ownBlock = some g) : g < w.heap.size := by
  rcases h.2 with ⟨rfl, rfl⟩ | ⟨g', cap, cur, rfl, _, hh, _⟩
  · cases hg
  · cases hg; exact (Array.getElem?_eq_some_iff.1 hh).1
/-- Two lists, in new memory. -/
def TwoPost (us vs : List Int) (w : World) (e : Ending) (w' : World) : Prop :=
  ∃ a1 c1 a2 c2, e = .returned (.tuple #[.slice a1 us.length c1, .slice a2 vs.length c2]) ∧ Row .i64 w' a1 us ∧ Row .i64 w' a2 vs ∧ Below w.heap.size w w'
set_option maxHeartbeats 2000000 in
theorem given_p (a : Option Addr) (xs : List Int) (cap : Nat) (w : World) (ha : Row .i64 w a xs) (hl : xs.length ≤ 9223372036854775807) :
    Calls Try.prog 38 #[.slice a xs.length cap] w (TwoPost (gds xs) (gls xs) w) := by
  obtain ⟨i3, hi3, hz0, hz1, hz2⟩ := info_parts info3
  go_enter Try.func38, Try.ntmps38
  go_wp2
  go_loopw [4, 5, 6] (fun v4 v5 v6 wr => ∃ (i : Nat) (a1 : Option Addr) (c1 : Nat) (a2 : Option Addr) (c2 : Nat), v6 = .int .i64 (i : Int) ∧ v4 = .slice a1 i c1 ∧ v5 = .slice a2 i c2 ∧ i ≤ xs.length ∧ i ≤ 20 ∧ wr.ownsRow w.heap.size 3 1 (.slice a1 i c1) i (((xs.take i).map gd).map (Value.int .i64)) ∧ wr.ownsRow w.heap.size 3 1 (.slice a2 i c2) i (((xs.take i).map gl).map (Value.int .i64)) ∧ (∀ g, (Value.slice a1 i c1).ownBlock = some g → (Value.slice a2 i c2).ownBlock = some g → False) ∧ Below w.heap.size w wr) (fun _ _ v _ => xs.length - (intOf v).toNat)
  case atStart => exact ⟨0, none, 0, none, 0, rfl, rfl, rfl, by omega, by omega, World.ownsRow_nil _ _ _ _, World.ownsRow_nil _ _ _ _, fun g h => by simp [Value.ownBlock] at h, Below.refl _ _⟩
  case round =>
    obtain ⟨i, a1, c1, a2, c2, rfl, rfl, rfl, hi, hi2, ho1, ho2, hdis, hb⟩ := hrel
    have hbs := hb.size
    have HO1 := Lib.hid ho1
    have HO2 := Lib.hid ho2
    have HDS := Lib.hid hdis
    clear ho1 ho2 hdis
    by_cases hlt : i < xs.length ∧ i < 20
    · obtain ⟨h1, h2⟩ := hlt
      obtain ⟨b1, o1, rfl, hb1, hc1⟩ := (ha.later hb).at h1
      have ce := hc1 i h1
      have e1 := take_map_succ gd xs i h1
      have e2 := take_map_succ gl xs i h1
      obtain ⟨n, hn⟩ : ∃ n, xs.getD i 0 = n := ⟨_, rfl⟩
      rw [hn] at ce e1 e2
      obtain ⟨k, hk⟩ : ∃ k, n % 1073741824 = k := ⟨_, rfl⟩
      have k0 := Int.emod_nonneg n (b := 1073741824) (by omega)
      have k1 := Int.emod_lt_of_pos n (b := 1073741824) (by omega)
      have qM := fun w => mod_k n 1073741824 (by omega) (by omega) w
      rw [hk] at k0 k1 qM
      have g1 : gd n = gdk k := by unfold gd; rw [hk]
      have g2 : gl n = glk k := by unfold gl; rw [hk]
      rw [g1] at e1
      rw [g2] at e2
      have E1 := Lib.hid e1
      have E2 := Lib.hid e2
      have i0 : (0 : Int) ≤ (i : Int) := by omega
      have i1 : (i : Int) < (xs.length : Int) := by omega
      have i2 : (i : Int) < 20 := by omega
      clear hc1 hn hk e1 e2 g1 g2
      have hk2 := Int.emod_nonneg k (b := 2) (by omega)
      have hk3 := Int.emod_lt_of_pos k (b := 2) (by omega)
      have hw2 : wrap64 (k % 2 * (1 + k / 3 % 9)) = k % 2 * (1 + k / 3 % 9) := by
        have h9 := Int.emod_nonneg (k / 3) (b := 9) (by omega)
        have h8 := Int.emod_lt_of_pos (k / 3) (b := 9) (by omega)
        rcases (show k % 2 = 0 ∨ k % 2 = 1 by omega) with h | h <;> rw [h] <;> exact IntWalk.wrap64_in _ (by omega)
      by_cases h5 : k / 14 % 5 = 0
      · have hD : gdk k = 1 + k / 70 := by unfold gdk; rw [if_pos h5]
        go_wp2_with (first | (go_at_call 27; refine (qM _).mono ?_; rintro e w1 ⟨rfl, hbM⟩; have hsM := hbM.size; have HP1 := Lib.hid (ownsRow_later HO1.out hbM); have HP2 := Lib.hid (ownsRow_later HO2.out hbM)) | (at_builtin; refine wpList_append_own_at _ rfl _ _ 38 rfl w.heap.size 3 i3 (.int .i64 0) 1 8 Try.underlying38 hi3 hz0 hz1 hz2 rfl (by decide) (.slice a1 i c1) _ _ rfl (HP1.out.alloc _) ⟨w1.heap.size, 0, none⟩ 1 1 [.int .i64 (1 + k / 70)] rfl rfl (cell_one_new _ _ _) (one_int_o _ _) (by unfold maxLen; omega) (by omega) (by simp; omega) ?_; intro v1 w4 ho4 hg4 hnil4 hat4; obtain ⟨a1', c1', rfl⟩ := own_slice_o ho4; have hs4 := hg4.size; (simp at hs4); have HO4 := Lib.hid ho4; have HQ2 := Lib.hid ((HP2.out.alloc _).kept hg4 (own_ne HDS.out)); have HQ1 : Below w.heap.size w w4 := ((hb.trans (hbM.mono hb.size)).alloc (by have := hb.size; omega) _).grown hg4 (by simp; have := hb.size; omega) (own_base_o HP1.out); clear ho4) | (at_builtin; refine wpList_append_own_at _ rfl _ _ 38 rfl w.heap.size 3 i3 (.int .i64 0) 1 8 Try.underlying38 hi3 hz0 hz1 hz2 rfl (by decide) (.slice a2 i c2) _ _ rfl (HQ2.out.alloc _) ⟨w4.heap.size, 0, none⟩ 1 1 [.int .i64 (k % 2 * (1 + k / 3 % 9))] rfl rfl (cell_one_new _ _ _) (one_int_o _ _) (by unfold maxLen; omega) (by omega) (by simp; omega) ?_; intro v2 w5 ho5 hg5 hnil5 hat5; obtain ⟨a2', c2', rfl⟩ := own_slice_o ho5; have hs5 := hg5.size; (simp at hs5)))
        go_roundw
        case rel =>
          have hw9 := hb.size
          have hlt2 : ∀ g, (Value.slice a2 i c2).ownBlock = some g → g < w1.heap.size := fun g hg => own_lt_o HP2.out hg
          have hlt1 : ∀ g, (Value.slice a1 i c1).ownBlock = some g → g < w1.heap.size := fun g hg => own_lt_o HP1.out hg
          have hd1 : ∀ g, (Value.slice a1' (i + 1) c1').ownBlock = some g → (Value.slice a2 i c2).ownBlock = some g → False := by
            intro g h1 h2
            rcases hat4 with h | h
            · exact HDS.out g (h ▸ h1) h2
            · have h3 := hlt2 g h2
              rw [h1] at h
              simp at h
              omega
          refine ⟨i + 1, a1', c1', a2', c2', by go_num, rfl, rfl, by omega, by omega, ?_, ?_, ?_, (HQ1.alloc (by omega) _).grown hg5 (by simp; omega) (own_base_o HQ2.out)⟩
          · have h9 := (HO4.out.alloc (.cells #[.int .i64 (k % 2 * (1 + k / 3 % 9))] 3)).kept hg5 (own_ne (fun g h1 h2 => hd1 g h2 h1))
            rw [E1.out, hD]
            exact h9
          · rw [E2.out]
            exact ho5
          · intro g h1 h2
            rcases hat5 with h | h
            · exact hd1 g h1 (h ▸ h2)
            · have h3 := own_lt_o HO4.out h1
              rw [h2] at h
              simp at h
              omega
        case measure => go_light; simp [intOf] <;> omega
      · have hD : gdk k = 1 + k / 2 % 7 := by unfold gdk; rw [if_neg h5]
        go_wp2_with (first | (go_at_call 27; refine (qM _).mono ?_; rintro e w1 ⟨rfl, hbM⟩; have hsM := hbM.size; have HP1 := Lib.hid (ownsRow_later HO1.out hbM); have HP2 := Lib.hid (ownsRow_later HO2.out hbM)) | (at_builtin; refine wpList_append_own_at _ rfl _ _ 38 rfl w.heap.size 3 i3 (.int .i64 0) 1 8 Try.underlying38 hi3 hz0 hz1 hz2 rfl (by decide) (.slice a1 i c1) _ _ rfl (HP1.out.alloc _) ⟨w1.heap.size, 0, none⟩ 1 1 [.int .i64 (1 + k / 2 % 7)] rfl rfl (cell_one_new _ _ _) (one_int_o _ _) (by unfold maxLen; omega) (by omega) (by simp; omega) ?_; intro v1 w4 ho4 hg4 hnil4 hat4; obtain ⟨a1', c1', rfl⟩ := own_slice_o ho4; have hs4 := hg4.size; (simp at hs4); have HO4 := Lib.hid ho4; have HQ2 := Lib.hid ((HP2.out.alloc _).kept hg4 (own_ne HDS.out)); have HQ1 : Below w.heap.size w w4 := ((hb.trans (hbM.mono hb.size)).alloc (by have := hb.size; omega) _).grown hg4 (by simp; have := hb.size; omega) (own_base_o HP1.out); clear ho4) | (at_builtin; refine wpList_append_own_at _ rfl _ _ 38 rfl w.heap.size 3 i3 (.int .i64 0) 1 8 Try.underlying38 hi3 hz0 hz1 hz2 rfl (by decide) (.slice a2 i c2) _ _ rfl (HQ2.out.alloc _) ⟨w4.heap.size, 0, none⟩ 1 1 [.int .i64 (k % 2 * (1 + k / 3 % 9))] rfl rfl (cell_one_new _ _ _) (one_int_o _ _) (by unfold maxLen; omega) (by omega) (by simp; omega) ?_; intro v2 w5 ho5 hg5 hnil5 hat5; obtain ⟨a2', c2', rfl⟩ := own_slice_o ho5; have hs5 := hg5.size; (simp at hs5)))
        go_roundw
        case rel =>
          have hw9 := hb.size
          have hlt2 : ∀ g, (Value.slice a2 i c2).ownBlock = some g → g < w1.heap.size := fun g hg => own_lt_o HP2.out hg
          have hlt1 : ∀ g, (Value.slice a1 i c1).ownBlock = some g → g < w1.heap.size := fun g hg => own_lt_o HP1.out hg
          have hd1 : ∀ g, (Value.slice a1' (i + 1) c1').ownBlock = some g → (Value.slice a2 i c2).ownBlock = some g → False := by
            intro g h1 h2
            rcases hat4 with h | h
            · exact HDS.out g (h ▸ h1) h2
            · have h3 := hlt2 g h2
              rw [h1] at h
              simp at h
              omega
          refine ⟨i + 1, a1', c1', a2', c2', by go_num, rfl, rfl, by omega, by omega, ?_, ?_, ?_, (HQ1.alloc (by omega) _).grown hg5 (by simp; omega) (own_base_o HQ2.out)⟩
          · have h9 := (HO4.out.alloc (.cells #[.int .i64 (k % 2 * (1 + k / 3 % 9))] 3)).kept hg5 (own_ne (fun g h1 h2 => hd1 g h2 h1))
            rw [E1.out, hD]
            exact h9
          · rw [E2.out]
            exact ho5
          · intro g h1 h2
            rcases hat5 with h | h
            · exact hd1 g h1 (h ▸ h2)
            · have h3 := own_lt_o HO4.out h1
              rw [h2] at h
              simp at h
              omega
        case measure => go_light; simp [intOf] <;> omega
    · have hlen : (xs.take 20).length = i := by rw [List.length_take]; omega
      have htk : xs.take i = xs.take 20 := by
        rcases (show i = 20 ∨ (i = xs.length ∧ i < 20) by omega) with h | ⟨h, h9⟩
        · rw [h]
        · rw [List.take_of_length_le (by omega), List.take_of_length_le (by omega)]
      have HLN := Lib.hid hlen
      have HTK := Lib.hid htk
      clear hlen htk
      have h2 : ¬ (i : Int) < (xs.length : Int) ∨ ((i : Int) < (xs.length : Int) ∧ ¬ (i : Int) < 20) := by omega
      clear hlt
      rcases h2 with g1 | ⟨g1, g2⟩
      all_goals
        go_wp2
        go_light
        refine bodyPost_ret (v := .tuple #[.slice a1 i c1, .slice a2 i c2]) (by simp [results, Try.results38, go_sem]) rfl ?_
        refine ⟨a1, c1, a2, c2, by unfold gds gls; simp only [List.length_map]; rw [HLN.out], ?_, ?_, hb⟩
        · have h9 := Row.of_own_slice (k := .i64) HO1.out
          rw [HTK.out] at h9
          exact h9
        · have h9 := Row.of_own_slice (k := .i64) HO2.out
          rw [HTK.out] at h9
          exact h9

/-- The cells of sequences. -/
def flat (qs : List (Int × Int × Int)) : List Value := qs.flatMap fun q => [.int .i64 q.1, .int .i64 q.2.1, .int .i64 q.2.2]
theorem flat_len (qs : List (Int × Int × Int)) : (flat qs).length = qs.length * 3 := by
  induction qs with
  | nil => rfl
  | cons q qs ih =>
    unfold flat at ih ⊢
    simp only [List.flatMap_cons, List.length_append, ih, List.length_cons, List.length_nil]
    omega
theorem flat_append (qs rs : List (Int × Int × Int)) : flat (qs ++ rs) = flat qs ++ flat rs := by simp [flat]
theorem flat_get : ∀ (qs : List (Int × Int × Int)) (i : Nat), i < qs.length → (flat qs)[i * 3]? = some (.int .i64 (qs.getD i (0, 0, 0)).1) ∧ (flat qs)[i * 3 + 1]? = some (.int .i64 (qs.getD i (0, 0, 0)).2.1) ∧ (flat qs)[i * 3 + 2]? = some (.int .i64 (qs.getD i (0, 0, 0)).2.2)
  | [], i, h => by simp at h
  | q :: qs, 0, _ => by simp [flat]
  | q :: qs, i + 1, h => by
    obtain ⟨h1, h2, h3⟩ := flat_get qs i (by simpa using h)
    have e : ∀ j, (flat (q :: qs))[j + 3]? = (flat qs)[j]? := fun j => by simp [flat]
    rw [show (i + 1) * 3 = i * 3 + 3 by omega, show i * 3 + 3 + 1 = (i * 3 + 1) + 3 by omega, show i * 3 + 3 + 2 = (i * 3 + 2) + 3 by omega, e, e, e]
    simpa using ⟨h1, h2, h3⟩
theorem RowQ.of_own {w : World} {base : Nat} {e : TypeId} {a : Option Addr} {n m cap : Nat} {qs : List (Int × Int × Int)} (h : w.ownsRow base e 3 (.slice a m cap) n (flat qs)) (hn : n = qs.length) : RowQ w a qs := by
  obtain ⟨hl, h⟩ := h
  rcases h with ⟨h1, rfl⟩ | ⟨g, cap, cur, hv, hg, hh, hn2, hm, hs, ht⟩
  · exact .inl (List.length_eq_zero_iff.1 hn.symm)
  · cases hv
    refine .inr ⟨g, 0, rfl, (Array.getElem?_eq_some_iff.1 hh).1, fun i hi => ?_⟩
    obtain ⟨f1, f2, f3⟩ := flat_get qs i hi
    have key : ∀ j, j < n * 3 → w.cell? ⟨g, 0 + j, none⟩ = (flat qs)[j]? := fun j hj => by
      have h1 : w.cell? ⟨g, 0 + j, none⟩ = cur[j]? := by simp [World.cell?, hh]
      have h2 : (cur.toList.take (n * 3))[j]? = cur.toList[j]? := by rw [List.getElem?_take]; rw [if_pos hj]
      rw [h1, ← Array.getElem?_toList, ← h2, ht]
    refine ⟨(key (i * 3) (by omega)).trans f1, ?_, ?_⟩
    · rw [Nat.add_assoc]; exact (key (i * 3 + 1) (by omega)).trans f2
    · rw [Nat.add_assoc]; exact (key (i * 3 + 2) (by omega)).trans f3
theorem mkq_take_succ (vs ls : List Int) (i : Nat) (h1 : i < vs.length) (h2 : i < ls.length) : flat ((mkq vs ls).take (i + 1)) = flat ((mkq vs ls).take i) ++ [.int .i64 (ls.getD i 0), .int .i64 3, .int .i64 (vs.getD i 0)] := by
  have hl : i < (mkq vs ls).length := by rw [mkq_len]; omega
  rw [List.take_succ_eq_append_getElem hl, flat_append]
  simp [flat, mkq, h1, h2]
theorem own_base3 {w : World} {base s : Nat} {e : TypeId} {v : Value} {n : Nat} {xs : List Value} (h : w.ownsRow base e s v n xs) : ∀ g, v.ownBlock = some g → base ≤ g := by
  intro g hg
  obtain ⟨hl, h⟩ := h
  rcases h with ⟨rfl, rfl⟩ | ⟨g', cap, cur, rfl, hg', hh, _⟩
  · cases hg
  · cases hg; exact hg'
theorem own_cap3 {w : World} {base s : Nat} {e : TypeId} {a : Option Addr} {n m cap : Nat} {xs : List Value} (h : w.ownsRow base e s (.slice a m cap) n xs) : m ≤ cap := by
  rcases h.2 with ⟨h1, rfl⟩ | ⟨g, cap', cur, h1, _, _, h2, _⟩
  · simp at h1; omega
  · simp at h1; omega
theorem infoSeq : (Try.prog.info? 79).map (fun i => (i.zero, i.size, i.bytes)) = some (some (.agg #[.int .i64 0, .int .i64 0, .int .i64 0]), 3, 24) := by kernel_rfl
/-- Sequences, in new memory. -/
def SeqPost (qs : List (Int × Int × Int)) (w : World) (e : Ending) (w' : World) : Prop :=
  ∃ pa ca, e = .returned (.slice pa qs.length ca) ∧ RowQ w' pa qs ∧ qs.length ≤ ca ∧ Below w.heap.size w w'
set_option maxHeartbeats 2000000 in
theorem seqs_p (pv pl : Option Addr) (vs ls : List Int) (cv cl : Nat) (w : World) (hv : Row .i64 w pv vs) (hl : Row .i64 w pl ls) (h1 : vs.length ≤ 100000) (h2 : ls.length ≤ 100000) :
    Calls Try.prog 39 #[.slice pv vs.length cv, .slice pl ls.length cl] w (SeqPost (mkq vs ls) w) := by
  obtain ⟨i3, hi3, hz0, hz1, hz2⟩ := info_parts infoSeq
  go_enter Try.func39, Try.ntmps39
  go_wp2
  go_loopw [5, 6] (fun v5 v6 wr => ∃ (i : Nat) (a1 : Option Addr) (c1 : Nat), v6 = .int .i64 (i : Int) ∧ v5 = .slice a1 i c1 ∧ i ≤ vs.length ∧ i ≤ ls.length ∧ wr.ownsRow w.heap.size 79 3 (.slice a1 i c1) i (flat ((mkq vs ls).take i)) ∧ Below w.heap.size w wr) (fun _ v _ => vs.length - (intOf v).toNat)
  case atStart => exact ⟨0, none, 0, rfl, rfl, by omega, by omega, World.ownsRow_nil _ _ _ _, Below.refl _ _⟩
  case round =>
    obtain ⟨i, a1, c1, rfl, rfl, hi, hi2, ho1, hb⟩ := hrel
    have hbs := hb.size
    have HO1 := Lib.hid ho1
    clear ho1
    by_cases hlt : i < vs.length ∧ i < ls.length
    · obtain ⟨g1, g2⟩ := hlt
      obtain ⟨b1, o1, he1, hb1, _⟩ := hv.at g1
      obtain ⟨b1', o1', he1', _, hc1⟩ := (hv.later hb).at g1
      obtain ⟨b2, o2, he2, hb2, _⟩ := hl.at g2
      obtain ⟨b2', o2', he2', _, hc2⟩ := (hl.later hb).at g2
      rw [he1] at he1'
      rw [he2] at he2'
      cases he1'
      cases he2'
      subst he1 he2
      have ce := hc1 i g1
      have cf := hc2 i g2
      have e1 := mkq_take_succ vs ls i g1 g2
      obtain ⟨x, hx⟩ : ∃ x, vs.getD i 0 = x := ⟨_, rfl⟩
      obtain ⟨y, hy⟩ : ∃ y, ls.getD i 0 = y := ⟨_, rfl⟩
      rw [hx] at ce e1
      rw [hy] at cf e1
      have E1 := Lib.hid e1
      have i0 : (0 : Int) ≤ (i : Int) := by omega
      have i1 : (i : Int) < (vs.length : Int) := by omega
      have i2 : (i : Int) < (ls.length : Int) := by omega
      clear hc1 hc2 hx hy e1
      go_wp2
      go_region_held3 (fun w' => w'.cell? ⟨b1, o1 + i, none⟩ = some (.int .i64 x) ∧ w'.cell? ⟨b2, o2 + i, none⟩ = some (.int .i64 y)) (first | (simp [go_sem, *]; done) | go_keep | (refine ⟨?_, ?_⟩ <;> simp [go_sem, *] <;> done)) ((refine step_append_lies _ (by rfl) _ _ _ (by rfl) w.heap.size 79 i3 _ 3 24 Try.underlying42 hi3 hz0 hz1 hz2 rfl (by omega) (.slice a1 i c1) i _ (by rfl) ((HO1.out.alloc _).drew) ⟨wr.heap.size, 0, none⟩ 1 1 [.int .i64 y, .int .i64 3, .int .i64 x] (by rfl) (by rfl) (World.news_of_block (cs := #[.int .i64 y, .int .i64 3, .int .i64 x]) (t := 79) (fr := (0, 0)) (heap_alloc_new wr _)) (by simp [Value.oneCell']) (by omega) (by unfold maxLen; omega) (by omega) (by simp; omega) (wr.heap.size + 1) (by simp) ?_; intro gg cap w6 hown6 hgrow6 hat hlt6; (have r0 : w6.cell? ⟨b1, o1 + i, none⟩ = some (.int .i64 x) := by (rw [hgrow6.cell_far _ (by simp; omega) (fun hh => by have := own_base3 HO1.out _ hh.symm; simp at this; omega)]; simp [go_sem, *])); (have r1 : w6.cell? ⟨b2, o2 + i, none⟩ = some (.int .i64 y) := by (rw [hgrow6.cell_far _ (by simp; omega) (fun hh => by have := own_base3 HO1.out _ hh.symm; simp at this; omega)]; simp [go_sem, *]))))
      go_wp2
      go_roundw
      case rel =>
        have hs6 := hgrow6.size
        simp at hs6
        refine ⟨i + 1, _, _, by go_num, rfl, by omega, by omega, ?_, ?_⟩
        · rw [E1.out]
          exact hown6
        · exact ((hb.alloc (by omega) _).drew).grown hgrow6 (by simp; omega) (own_base3 HO1.out)
      case measure => go_light; simp [intOf] <;> omega
    · have hlen : (mkq vs ls).length = i := by rw [mkq_len]; omega
      have HLN := Lib.hid hlen
      clear hlen
      have h2 : ¬ (i : Int) < (vs.length : Int) ∨ ((i : Int) < (vs.length : Int) ∧ ¬ (i : Int) < (ls.length : Int)) := by omega
      clear hlt
      rcases h2 with g1 | ⟨g1, g2⟩
      all_goals
        go_wp2
        go_light
        refine bodyPost_ret (v := .slice a1 i c1) (by simp [results, Try.results39, go_sem]) rfl ?_
        have h9 := HO1.out
        rw [← HLN.out, List.take_length] at h9
        refine ⟨a1, c1, by rw [HLN.out], RowQ.of_own h9 rfl, by rw [HLN.out]; exact own_cap3 HO1.out, hb⟩
end Go.Proofs.Ytenhglamnpmkaaa
