/-
  The iterator of the matches, walked.
-/
import Derived.Test.YtammacofhdbgcaaRows
import Derived.Test.YtammacofhdbgcaaMatchRow
import Derived.Test.YtammacofhdbgcaaWindow7
import Derived.Test.YtammacofhdbgcaaRangeT
import Derived.Test.YtammacofhdbgcaaWindowPlain2
import Derived.Test.YtammacofhdbgcaaCommon
import Derived.Deep.Light
import Derived.Shelf.Abstract
import Derived.Shelf.RegionOpen
import Derived.OwnWalkIn
import Derived.TacticsInMore
import Derived.LoopNIn
import Derived.LoopIn
import Derived.IntWalk
namespace Go.Proofs.Ytammacofhdbgcaa
open Go.RowKit
set_option linter.unusedSimpArgs false
set_option linter.unusedVariables false
open Go.Shelf
attribute [local go_sem] Oper.semAt_some

theorem yes_no {e : Ending} {A B : Prop} (h : (e = .returned (.bool true) ∧ A) ∨ (e = .returned (.bool false) ∧ B)) : ∃ b, e = .returned (.bool b) ∧ ((b = true ∧ A) ∨ (b = false ∧ B)) := by
  rcases h with ⟨h1, h2⟩ | ⟨h1, h2⟩
  · exact ⟨true, h1, .inl ⟨rfl, h2⟩⟩
  · exact ⟨false, h1, .inr ⟨rfl, h2⟩⟩
set_option maxRecDepth 100000 in
set_option maxHeartbeats 2000000 in
theorem matches_iter (s : ByteArray) (p e : Nat) (a b c lits : Int) (L : List Nat) (pl : Option Addr) (cl bl bs bp be br bt l : Nat) (hp : p ≤ 1048576) (hLL : L.length ≤ 64) (hL : ∀ q ∈ L, q < p) (hs : s.size ≤ 1048576) (hpe : p ≤ e) (hes : e ≤ s.size) (hc : chkL true [a, b, c] = 0) (hli : 0 ≤ lits)
    (J : Nat → World → Prop) (Jx : World → Prop) (W : World)
    (hst : ∀ i X Y, Below X.heap.size X Y → J i X → J i Y)
    (hF : ∀ i X, J i X → X.cell? ⟨bl, 0, none⟩ = some (.slice pl (nats L).length cl) ∧ X.cell? ⟨bs, 0, none⟩ = some (.string s) ∧ X.cell? ⟨bp, 0, none⟩ = some (.int .i64 (p : Int)) ∧ X.cell? ⟨be, 0, none⟩ = some (.int .i64 (e : Int)) ∧ X.cell? ⟨br, 0, none⟩ = some (.int .i64 a) ∧ X.cell? ⟨br, 1, none⟩ = some (.int .i64 b) ∧ X.cell? ⟨br, 2, none⟩ = some (.int .i64 c) ∧ X.cell? ⟨bt, 0, none⟩ = some (.int .i64 lits) ∧ Row .i64 X pl (nats L))
    (hr : ∀ i X, i < L.length → J i X → RoundOk Try.prog l #[.agg #[.int .i64 (mof s p e a b c lits (L.getD i 0)).1, .int .i64 (mof s p e a b c lits (L.getD i 0)).2.1, .int .i64 (mof s p e a b c lits (L.getD i 0)).2.2.1, .int .i64 (mof s p e a b c lits (L.getD i 0)).2.2.2]] X (J (i + 1)) Jx) (h0 : J 0 W) :
    Calls Try.prog 83 #[.func (.yield l) #[] #[], .pointer (some ⟨bl, 0, none⟩), .pointer (some ⟨bs, 0, none⟩), .pointer (some ⟨bp, 0, none⟩), .pointer (some ⟨be, 0, none⟩), .pointer (some ⟨br, 0, none⟩), .pointer (some ⟨bt, 0, none⟩)] W fun e W' => (∃ v, e = .returned v) ∧ (J L.length W' ∨ Jx W') := by
  refine callsIn_wide (n := 0) |>.1 (callsIn_of_wp Try.func83 rfl trivial ?_ rfl)
  simp only [Try.ntmps83, List.size_toArray, List.length_cons, List.length_nil, Nat.reduceAdd, Nat.reduceSub, Array.replicate_succ, Array.replicate_zero, List.push_toArray, List.append_toArray, List.nil_append, List.cons_append]
  have hc0 := (hF 0 W h0).1
  have hlen : (nats L).length = L.length := by simp [nats]
  gi_wp2
  gi_loopw [16] (fun v wr => ∃ k : Nat, v = .int .i64 (k : Int) ∧ k ≤ L.length ∧ J k wr) (fun v _ => L.length - (intOf v).toNat)
  case atStart => exact ⟨0, rfl, by omega, h0⟩
  case round =>
    clear hc0
    obtain ⟨k, rfl, hk, hj⟩ := hrel
    by_cases hlt : k < L.length
    · obtain ⟨x0, x1, x2, x3, x4, x5, x6, x7, hrow⟩ := hF _ wr hj
      obtain ⟨b1, o1, rfl, hb1, hc1⟩ := hrow.at (i := k) (by omega)
      have c1 := hc1 k (by omega)
      obtain ⟨q, hq⟩ : ∃ q, L.getD k 0 = q := ⟨_, rfl⟩
      have hn : (nats L).getD k 0 = (q : Int) := by rw [← hq]; simp [nats, List.getD_eq_getElem?_getD, hlt]
      rw [hn] at c1
      have i0 : (0 : Int) ≤ (k : Int) := by omega
      have i1 : (k : Int) < ((nats L).length : Int) := by omega
      have HST := Lib.hid hst
      have HJ := Lib.hid hj
      clear hc1 hn hst hj hrow
      have hqp : q < p := hL q (by rw [← hq]; simp [List.getD_eq_getElem?_getD, hlt])
      have hcm : wcom s (q : Int) (p : Int) (e : Int) = (((cmn s (e - p) q p : Nat) : Int), 0) := by
        unfold wcom
        rw [if_neg (by omega), if_pos ⟨by omega, by omega, by omega, by omega⟩]
        rw [show ((e : Int) - (p : Int)).toNat = e - p by omega, Int.toNat_natCast, Int.toNat_natCast]
      have qC := fun w => wcommon_p s (q : Int) (p : Int) (e : Int) w (by omega)
      rw [hcm] at qC
      have qV := fun w => value_p a b c ((p : Int) - (q : Int)) lits w
      obtain ⟨n, hn9⟩ : ∃ n, cmn s (e - p) q p = n := ⟨_, rfl⟩
      rw [hn9] at qC
      dsimp only at qC
      have hn10 : n ≤ e - p := by rw [← hn9]; exact cmn_le _ _ _ _
      obtain ⟨v, hv1, hv2, hv3, _⟩ := rval_ok (a := a) (b := b) (c := c) (d := (p : Int) - (q : Int)) (l := lits) hc (by omega) (by omega) hli
      rw [hv1] at qV
      have hmo : mof s p e a b c lits q = ((p : Int) - (q : Int), (n : Int), v, mgain (n : Int) v) := by unfold mof; rw [hn9, hv1]
      have hr2 := fun X => hr k X hlt
      rw [hq, hmo] at hr2
      dsimp only at qV hr2
      have HR := Lib.hid hr2
      clear hcm hn9 hv1 hmo hr2 hr
      gi_wp2
      refine ⟨trivial, rfl, (callsIn_wide.2 (qC _)).mono ?_⟩
      rintro e' w1 ⟨rfl, hbA⟩
      have hsA := hbA.size
      have hj1 := HST.out k wr w1 hbA HJ.out
      obtain ⟨x0, x1, x2, x3, x4, x5, x6, x7, _⟩ := hF _ w1 hj1
      have HJ1 := Lib.hid hj1
      clear hj1
      gi_wp2
      refine ⟨trivial, rfl, (callsIn_wide.2 (qV _)).mono ?_⟩
      rintro e' w2 ⟨rfl, hbB⟩
      have hj2 := HST.out k w1 w2 hbB HJ1.out
      obtain ⟨x0, x1, x2, x3, x4, x5, x6, x7, _⟩ := hF _ w2 hj2
      have HJ2 := Lib.hid hj2
      clear hj2
      gi_wp2
      have hbd : Below w2.heap.size w2 w2.drew := (Below.refl _ _).drew
      have hj3 := HST.out k w2 w2.drew hbd HJ2.out
      obtain ⟨x0, x1, x2, x3, x4, x5, x6, x7, _⟩ := hF _ w2.drew hj3
      have hRR := HR.out _ hj3
      obtain ⟨fn, tmps, assign, body, hy, hRo⟩ := hRR
      have qG := fun w => gain_s (n : Int) v w (by omega) (by omega) (by omega) (by omega)
      generalize mgain (n : Int) v = g at qG hy
      clear hj3 HJ2
      have hmx : Try.prog.follows .mixedOrders = true := by kernel_rfl
      have hwr : IntKind.i64.wrap ((p : Int) - (q : Int)) = (p : Int) - (q : Int) := IntWalk.i64_in _ (by omega)
      gi_region_with_o (first | (refine ⟨trivial, rfl, ?_⟩; (with_reducible refine (callsIn_wide.2 (qG _)).mono ?_); rintro e' w' ⟨rfl, rfl⟩) | (refine ⟨rfl, hRo.mono ?_⟩; rintro e' W4 h; obtain ⟨bo, rfl, hbo⟩ := yes_no h))
      all_goals rcases hbo with ⟨rfl, hJ3⟩ | ⟨rfl, hJx3⟩
      all_goals gi_wp2
      all_goals first
        | (go_roundw
           case rel => exact ⟨k + 1, by go_num, by omega, hJ3⟩
           case measure => go_light; simp [intOf] <;> omega)
        | (refine bodyPost_ret (results_none rfl _ _ _) rfl ?_
           exact ⟨⟨_, rfl⟩, .inr hJx3⟩)
    · have hkk : L.length = k := by omega
      have hj2 : J L.length wr := by rw [hkk]; exact hj
      clear hkk
      gi_wp2
      go_end0
      exact ⟨⟨_, rfl⟩, .inl hj2⟩
end Go.Proofs.Ytammacofhdbgcaa
