/-
  The iterator over the candidates of a place, walked.
-/
import Derived.Test.YtammacofhdbgcaaRows
import Derived.Test.YtammacofhdbgcaaWindow5
import Derived.Test.YtammacofhdbgcaaRangeT
import Derived.WalkMore
import Derived.Test.YtammacofhdbgcaaCommon
import Derived.Deep.Light
import Derived.Shelf.Abstract
import Derived.Shelf.RegionOpen
import Derived.OwnWalkIn
import Derived.TacticsInMore
import Derived.LoopNIn
import Derived.LoopIn
import Derived.Outline
import Derived.Maps.OwnIn
namespace Go.Proofs.Ytammacofhdbgcaa
open Go.RowKit
set_option linter.unusedSimpArgs false
set_option linter.unusedVariables false
open Go.Shelf
attribute [local go_sem] Oper.semAt_some

section
open Go.Maps
variable {F : Fence} {nF : Nat} {w : World} {ops : Array Oper} {rest : List Oper} {o : Oper} {act : Act} {Q : Exit → Act → World → Prop}
theorem wpListIn_mapEntry_grp (hg : o.guard = none) (m x : Operand) (hop : o.op = Op.mapEntry 136 m x) {base B : Nat} {s : ByteArray} {a n : Nat} (h : Grp w base B s a n) (q : Nat) (hm : act.eval m = .map (some B)) (hx : act.eval x = key4 s q)
    (hK : ∀ (v : Value) (st : Nat) (w1 : World), w1.ownsRow base 3 1 v (plc s q a n).length (pvals (plc s q a n)) → Hole w1 base B s a n q v st → w.grownBy w1 (some B) → wpListIn F nF Try.prog ops Q rest (act.put o.dst (.tuple #[v, .int .i64 (st : Int)])) w1) :
    wpListIn F nF Try.prog ops Q (o :: rest) act w := by
  refine wpListIn_plain hg fun K' hK' => ?_
  obtain ⟨v, st, w1, hrun, r1, r2, r3⟩ := mapEntry_grp h q
  unfold Oper.wpIn
  refine ⟨by simp [Oper.about, hop], ?_⟩
  rw [Oper.semAt_plain F _ _ (by rw [hop]; intro c hc'; cases hc')]
  simp [execOp, hop, hm, hx, hrun, Result.andThen]
  exact hK' _ _ (hK v st w1 r1 r2 r3)
theorem wpListIn_entryStore_grp (hg : o.guard = none) (m x v : Operand) (hop : o.op = Op.entryStore 136 m x v) {base B : Nat} {s : ByteArray} {a n q : Nat} {st : Nat} {val : Value} (hq : a + n = q) (h : Hole w base B s a n q val st)
    (hv : w.ownsRow base 3 1 val (plc s q a (n + 1)).length (pvals (plc s q a (n + 1)))) (hm : act.eval m = .map (some B)) (hx : act.eval x = .int .i64 (st : Int)) (hval : act.eval v = val)
    (hK : ∀ (w1 : World), Grp w1 base B s a (n + 1) → w.grownBy w1 (some B) → wpListIn F nF Try.prog ops Q rest (act.put o.dst undef) w1) :
    wpListIn F nF Try.prog ops Q (o :: rest) act w := by
  refine wpListIn_plain hg fun K' hK' => ?_
  subst hq
  obtain ⟨w1, hrun, r1, r2⟩ := entryStore_grp h hv
  have hx' : act.eval x = goInt st := hx
  unfold Oper.wpIn
  refine ⟨by simp [Oper.about, hop], ?_⟩
  rw [Oper.semAt_plain F _ _ (by rw [hop]; intro c hc'; cases hc')]
  simp [execOp, hop, hm, hx', hval, hrun, Result.andThen]
  exact hK' _ _ (hK w1 r1 r2)
theorem own_next {w : World} {base : Nat} {s : ByteArray} {a k q : Nat} {v : Value} (hq : a + k = q) (h : w.ownsRow base 3 1 v ((plc s q a k).length + 1) (pvals (plc s q a k) ++ [.int .i64 (q : Int)])) :
    w.ownsRow base 3 1 v (plc s q a (k + 1)).length (pvals (plc s q a (k + 1))) := by
  subst hq
  rw [plc_self]
  simpa [pvals, nats] using h
theorem news_one {w : World} {b : Nat} {x : Value} (h : w.cell? ⟨b, 0, none⟩ = some x) : ∀ (j : Nat) (u : Value), [x][j]? = some u → w.cell? ((⟨b, 0, none⟩ : Addr).add j) = some u := by
  intro j u hj
  match j, hj with
  | 0, hj =>
    simp at hj
    subst hj
    simpa [Addr.add] using h
theorem one_int (k : IntKind) (x : Int) : ∀ u ∈ [Value.int k x], u.oneCell' = true := by
  intro u hu
  simp at hu
  subst hu
  rfl
theorem plc_len (s : ByteArray) (q a n : Nat) : (plc s q a n).length ≤ n := by
  unfold plc
  refine Nat.le_trans (List.length_filter_le _ _) (by simp)
theorem wpListIn_lookup_grp (hg : o.guard = none) (m x : Operand) (hop : o.op = Op.lookup 136 m x false) {base B : Nat} {s : ByteArray} {a n : Nat} (h : Grp w base B s a n) (q : Nat) (hm : act.eval m = .map (some B)) (hx : act.eval x = key4 s q)
    (hK : ∀ (ad : Option Addr) (cap N : Nat), Hid ((plc s q a n).length = N) → w.ownsRow base 3 1 (.slice ad N cap) N (pvals (plc s q a n)) → wpListIn F nF Try.prog ops Q rest (act.put o.dst (.slice ad N cap)) w) :
    wpListIn F nF Try.prog ops Q (o :: rest) act w := by
  refine wpListIn_plain hg fun K' hK' => ?_
  obtain ⟨v, hrun, r1⟩ := lookup_grp h q
  obtain ⟨ad, cap, rfl, hn, _⟩ := Row.of_own (k := .i64) r1
  rw [← hn] at hrun r1
  unfold Oper.wpIn
  refine ⟨by simp [Oper.about, hop], ?_⟩
  rw [Oper.semAt_plain F _ _ (by rw [hop]; intro c hc'; cases hc')]
  simp [execOp, hop, hm, hx, hrun, Result.andThen]
  exact hK' _ _ (hK ad cap _ rfl r1)
end

theorem wback_int (p l : Nat) : ((wback p l : Nat) : Int) = min (p : Int) ((2 : Int) ^ l) := by
  unfold wback
  have : ((2 ^ l : Nat) : Int) = (2 : Int) ^ l := by simp
  omega
theorem reach_s (p l : Nat) (w : World) (h1 : 10 ≤ l) (h2 : l ≤ 27) (h4 : p ≤ 1048576) : Calls Try.prog 104 #[.int .i64 (p : Int), .int .i64 (l : Int)] w fun e' w' => e' = .returned (.int .i64 (wback p l : Nat)) ∧ w' = w := by
  have hk := pow_le (l := (l : Int)) (by omega)
  rw [Int.toNat_natCast] at hk
  rw [wback_int]
  obtain ⟨P, hP⟩ : ∃ P, (2 : Int) ^ l = P := ⟨_, rfl⟩
  rw [hP] at hk ⊢
  obtain ⟨k1, k2⟩ := hk
  obtain ⟨M, hM⟩ : ∃ M, min (p : Int) P = M := ⟨_, rfl⟩
  rw [hM]
  have HM := Lib.hid hM
  clear hM
  by_cases hc : p ≤ P
  · have e1 : p = M := by rw [← HM.out]; omega
    have E1 := Lib.hid e1
    clear e1
    go_enter Try.func104, Try.ntmps104
    go_wp2
    all_goals go_ret
    all_goals exact ⟨by first | (rw [← E1.out]; rfl) | (exfalso; omega), rfl⟩
  · have e1 : P = M := by rw [← HM.out]; omega
    have E1 := Lib.hid e1
    clear e1
    go_enter Try.func104, Try.ntmps104
    go_wp2
    all_goals go_ret
    all_goals exact ⟨by first | (rw [← E1.out]; rfl) | (exfalso; omega), rfl⟩

theorem at_4 (s : ByteArray) (q : Nat) (w : World) (h : q + 4 ≤ s.size) (hl : s.size ≤ 1048576) : Calls Try.prog 105 #[.string s, .int .i64 (q : Int)] w fun e' w' => e' = .returned (.agg #[.int .u8 (byt s q : Nat), .int .u8 (byt s (q + 1) : Nat), .int .u8 (byt s (q + 2) : Nat), .int .u8 (byt s (q + 3) : Nat)]) ∧ Below w.heap.size w w' := at_t s q w h hl
/-- The candidates of a place, the nearest one first, all of them. -/
def candAll (s : ByteArray) (p e l : Nat) : List Nat := if e - p < 4 then [] else (plc s p (p - wback p l) (wback p l)).reverse
set_option maxHeartbeats 2000000 in
theorem cand_iter (s : ByteArray) (p e l be bp bl bs ly B0 : Nat) (h1 : s.size ≤ 1048576) (hpe : p ≤ e) (hes : e ≤ s.size) (hl1 : 10 ≤ l) (hl2 : l ≤ 27)
    (J : Nat → Nat → World → Prop) (Jx : World → Prop) (W : World) (hB0 : B0 ≤ W.heap.size) (q1 : be < W.heap.size) (q2 : bp < W.heap.size) (q3 : bl < W.heap.size) (q4 : bs < W.heap.size)
    (hst : ∀ T i X Y, Below X.heap.size X Y → J T i X → J T i Y)
    (hF : ∀ (T i : Nat) (X : World), J T i X → X.cell? ⟨be, 0, none⟩ = some (.int .i64 (e : Int)) ∧ X.cell? ⟨bp, 0, none⟩ = some (.int .i64 (p : Int)) ∧ X.cell? ⟨bl, 0, none⟩ = some (.int .i64 (l : Int)) ∧ X.cell? ⟨bs, 0, none⟩ = some (.string s))
    (hr : ∀ T i X, i < (candAll s p e l).length → T ≤ X.heap.size → J T i X → RoundOk Try.prog ly #[.int .i64 ((candAll s p e l).getD i 0 : Nat)] X (fun W' => J T (i + 1) W' ∧ KeptTo B0 T X W') Jx) (h0 : ∀ T, J T 0 W) :
    Calls Try.prog 103 #[.func (.yield ly) #[] #[], .pointer (some ⟨be, 0, none⟩), .pointer (some ⟨bp, 0, none⟩), .pointer (some ⟨bl, 0, none⟩), .pointer (some ⟨bs, 0, none⟩)] W fun e' W' => (∃ v, e' = .returned v) ∧ ((∃ T, J T (candAll s p e l).length W') ∨ Jx W') := by
  refine callsIn_wide (n := 0) |>.1 (callsIn_of_wp Try.func103 rfl trivial ?_ rfl)
  simp only [Try.ntmps103, List.size_toArray, List.length_cons, List.length_nil, Nat.reduceAdd, Nat.reduceSub, Array.replicate_succ, Array.replicate_zero, List.push_toArray, List.append_toArray, List.nil_append, List.cons_append]
  obtain ⟨c1, c2, c3, c4⟩ := hF 0 0 W (h0 0)
  by_cases hlt : e - p < 4
  · have hn : (candAll s p e l).length = 0 := by unfold candAll; rw [if_pos hlt]; rfl
    have HN := Lib.hid hn
    clear hn
    have g : (e : Int) - (p : Int) < 4 := by omega
    gi_wp2
    refine bodyPost_ret (results_none rfl _ _ _) rfl ?_
    exact ⟨⟨_, rfl⟩, .inl ⟨0, by rw [HN.out]; exact h0 0⟩⟩
  · have g : ¬ (e : Int) - (p : Int) < 4 := by omega
    have hb : wback p l ≤ p := by unfold wback; omega
    gi_wp2
    have hmm := @run_makeMap Try.prog
    refine wpIn_wide.2 ?_
    go_quiet ((go_at_call 104; exact Calls.quiet_of_same (reach_s p l _ hl1 hl2 (by omega))))
    gi_wp2
    obtain ⟨R, hR⟩ : ∃ R, wback p l = R := ⟨_, rfl⟩
    have hRp : R ≤ p := by rw [← hR]; exact hb
    obtain ⟨a, ha⟩ : ∃ a, a + R = p := ⟨p - R, by omega⟩
    have hall : candAll s p e l = (plc s p a R).reverse := by unfold candAll; rw [if_neg hlt, hR, show p - R = a by omega]
    rw [hR]
    have HALL := Lib.hid hall
    have HJ0 := Lib.hid h0
    have HRD := Lib.hid hr
    clear hall hR hb hF hr h0 hmm
    obtain ⟨i0, hi, hz0, hz1, hz2⟩ := info_parts infoInt
    gi_loopw [8] (fun v wr => ∃ k q : Nat, k ≤ R ∧ Hid (a + k = q) ∧ v = .int .i64 (q : Int) ∧ Grp wr (W.heap.size + 1) W.heap.size s a k ∧ Below W.heap.size W wr ∧ W.heap.size + 1 ≤ wr.heap.size) (fun v _ => p - (intOf v).toNat)
    case atStart =>
      refine ⟨0, a, by omega, rfl, by rw [show (p : Int) - (R : Int) = (a : Int) by omega], Grp.made (W.drewN nq) s a, (below_drewN (Below.refl _ _) _).alloc (Nat.le_refl _) _, by simp⟩
    case round =>
      obtain ⟨k, q, hk, HQ, rfl, HG, hb, hsz⟩ := hrel
      have d1 := (hb.cell (p := ⟨be, 0, none⟩) q1).trans c1
      have d2 := (hb.cell (p := ⟨bp, 0, none⟩) q2).trans c2
      have d4 := (hb.cell (p := ⟨bs, 0, none⟩) q4).trans c4
      by_cases hkr : k < R
      · have hq0 := HQ.out
        have hqp : q < p := by omega
        have hq : q + 4 ≤ s.size := by omega
        have i1 : (q : Int) < (p : Int) := by omega
        clear hq0
        have CC : ∀ (w1 w3 : World) (o : Obj), Below wr.heap.size wr w1 → W.heap.size + 1 ≤ wr.heap.size → ((w1.alloc o).alloc (.cells #[.int .i64 (q : Int)] 3)).grownBy w3 (some W.heap.size) → w3.cell? ⟨w1.heap.size + 1, 0, none⟩ = some (.int .i64 (q : Int)) := by
          intro w1 w3 o hb1 hs hg
          refine hg.cell ?_ ?_
          · simp [go_sem]
          · have := hb1.size
            simp
            omega
        gi_wp2
        refine ⟨trivial, rfl, (callsIn_wide.2 (at_4 s q _ hq h1)).mono ?_⟩
        rintro e' w1 ⟨rfl, hb1⟩
        have hsz1 := hb1.size
        have LEN := plc_len s q a k
        gi_wp2_with (first | (gi_at_builtin; refine wpListIn_append_own_at _ rfl _ _ 37 rfl (W.heap.size + 1) 3 i0 (.int .i64 0) 1 8 Try.underlying37 hi hz0 hz1 hz2 rfl (by decide) v _ _ rfl ho ⟨w1.heap.size + 1, 0, none⟩ 1 1 [.int .i64 (q : Int)] rfl rfl ?_ ?_ ?_ ?_ ?_ ?_; exact news_one (CC _ _ _ hb1 hsz hg3); exact one_int _ _; (unfold maxLen; omega); omega; (have := hg3.size; simp at this; omega); intro v' w4 ho' hg4 hnil hat; have ho2 := own_next HQ.out ho') | (refine wpListIn_entryStore_grp rfl _ _ _ rfl HQ.out (Hole.grown hh (own_base ho) hg4 (hat.imp id (fun h => ⟨_, h, Nat.le_refl _⟩))) ho2 rfl rfl rfl ?_; intro w5 HG5 hg5) | (refine wpListIn_mapEntry_grp rfl _ _ rfl (HG.later ?_) q rfl rfl ?_; rotate_left; intro v st w3 ho hh hg3))
        · go_roundw
          case rel =>
            refine ⟨k + 1, q + 1, by omega, ?_, by go_num, HG5, ?_, ?_⟩
            · have := HQ.out
              exact show a + (k + 1) = q + 1 by omega
            · refine (((((((hb.trans (hb1.mono hb.size)).alloc ?_ _).alloc ?_ _).grown hg3 ?_ ?_).grown hg4 ?_ ?_).grown hg5 ?_ ?_))
              · omega
              · simp; omega
              · simp; omega
              · intro j h; cases h; exact Nat.le_refl _
              · have := hg3.size; simp at this; omega
              · intro j h; have := own_base ho j h; omega
              · have := hg3.size; have := hg4.size; simp at *; omega
              · intro j h; cases h; exact Nat.le_refl _
            · have h3 := hg3.size
              have h4 := hg4.size
              have h5 := hg5.size
              simp at h3
              omega
          case measure => go_light; simp [intOf] <;> omega
        · exact (hb1.alloc hsz1 _).alloc (by simp; omega) _
      · have hkk : k = R := by omega
        subst hkk
        have hqq := HQ.out
        obtain rfl : q = p := by omega
        have hkb : k ≤ 1048576 := by omega
        clear hqq ha HQ hk hRp
        gi_wp2
        refine ⟨trivial, rfl, (callsIn_wide.2 (at_4 s q _ (by omega) h1)).mono ?_⟩
        rintro e' w1 ⟨rfl, hb1⟩
        have hsz1 := hb1.size
        gi_wp2_with (refine wpListIn_lookup_grp rfl _ _ rfl (HG.later hb1) q rfl rfl ?_; intro ad cap N HN ho; have hNb : N ≤ 1048576 := by have h9 := HN.out; have h8 := plc_len s q a k; omega)
        obtain ⟨T, hT⟩ : ∃ T, w1.heap.size = T := ⟨_, rfl⟩
        have hT1 : W.heap.size ≤ T := by omega
        have hT2 : T ≤ w1.heap.size := by omega
        have hTg : ∀ g, (Value.slice ad N cap).ownBlock = some g → g < T := by
          intro g hg
          obtain ⟨_, ho2⟩ := ho
          rcases ho2 with ⟨h, _⟩ | ⟨g', cap', cur, h, _, hh, _⟩
          · rw [h] at hg; cases hg
          · rw [h] at hg; cases hg
            rw [← hT]; exact (Array.getElem?_eq_some_iff.1 hh).1
        have HJ := Lib.hid (hst T 0 W w1 (hb.trans (hb1.mono hb.size)) (HJ0.out T))
        have HTG := Lib.hid hTg
        clear hT hTg HG d1 d2 d4 c1 c2 c3 c4 hb hb1 hsz1
        gi_loopw [11] (fun v wx => ∃ (i j : Nat) (x : Int), i + j ≤ N ∧ N ≤ i + j ∧ x + 1 ≤ j ∧ j ≤ x + 1 ∧ v = .int .i64 x ∧ J T i wx ∧ T ≤ wx.heap.size ∧ wx.ownsRow (W.heap.size + 1) 3 1 (.slice ad N cap) N (pvals (plc s q a k))) (fun v _ => (intOf v + 1).toNat)
        case atStart => exact ⟨0, N, (N : Int) - 1, by omega, by omega, by omega, by omega, rfl, HJ.out, hT2, ho⟩
        case round =>
          clear ho HJ hT2
          obtain ⟨i, j, x, e1, e2, e3, e4, rfl, hj, hT2, ho⟩ := hrel
          by_cases hx : 0 ≤ x
          · obtain ⟨m, rfl⟩ : ∃ m : Nat, x = (m : Int) := ⟨x.toNat, by omega⟩
            have hm : m < N := by omega
            have i1 : (m : Int) < (N : Int) := by omega
            have hrow := Row.of_own_slice (k := .i64) ho
            obtain ⟨b1, o1, rfl, hb1, hc1⟩ := hrow.at (i := m) (by have := HN.out; simpa [nats, this] using hm)
            have c1 := hc1 m (by have := HN.out; simpa [nats, this] using hm)
            obtain ⟨y, hy⟩ : ∃ y, (plc s q a k).getD m 0 = y := ⟨_, rfl⟩
            have hcy : (nats (plc s q a k)).getD m 0 = (y : Int) := by
              rw [← hy]
              have h9 : m < (plc s q a k).length := by have := HN.out; omega
              simp [nats, h9]
            rw [hcy] at c1
            have hlen : (candAll s q e l).length = N := by rw [HALL.out, List.length_reverse]; exact HN.out
            have hcand : (candAll s q e l).getD i 0 = y := by
              rw [← hy, HALL.out]
              have h9 := HN.out
              have h8 : m = (plc s q a k).length - 1 - i := by omega
              rw [h8]
              have h7 : i < (plc s q a k).length := by omega
              simp [List.getD_eq_getElem?_getD, List.getElem?_reverse h7]
            obtain ⟨fn, tmps, assign, body, hyy, hRR⟩ := HRD.out T i wr (by omega) hT2 hj
            rw [hcand] at hyy
            have HO := Lib.hid ho
            clear hc1 hrow hcy hlen hcand hy ho
            gi_wp2
            refine ⟨rfl, hRR.mono ?_⟩
            rintro e9 W3 (⟨rfl, hJ3, hK3⟩ | ⟨rfl, hJx3⟩)
            · have hs3 := hK3.size
              have ho3 := hK3.ownsRow HO.out (by omega) HTG.out
              have HO3 := Lib.hid ho3
              clear ho3 hyy
              gi_wp2
              go_roundw
              case rel => exact ⟨i + 1, m, (m : Int) - 1, by omega, by omega, by omega, by omega, rfl, hJ3, by omega, HO3.out⟩
              case measure => go_light; simp [intOf] <;> omega
            · clear hyy
              gi_wp2
              refine bodyPost_ret (results_none rfl _ _ _) rfl ?_
              exact ⟨⟨_, rfl⟩, .inr hJx3⟩
          · obtain rfl : j = 0 := by omega
            have hlen : (candAll s q e l).length = i := by rw [HALL.out, List.length_reverse, HN.out]; omega
            have HL := Lib.hid hlen
            clear hlen
            gi_wp2
            go_end0
            exact ⟨⟨_, rfl⟩, .inl ⟨T, by rw [HL.out]; exact hj⟩⟩
end Go.Proofs.Ytammacofhdbgcaa
