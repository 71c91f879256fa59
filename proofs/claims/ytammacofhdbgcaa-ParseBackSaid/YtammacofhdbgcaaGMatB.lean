/-
  All matches of a place, and the best one, walked.
-/
import Derived.Test.YtammacofhdbgcaaRows
import Derived.Test.YtammacofhdbgcaaGMatA
import Derived.Test.YtammacofhdbgcaaGWin
import Derived.Test.YtammacofhdbgcaaGReps
import Derived.Test.YtammacofhdbgcaaGBase
import Derived.Deep.Light
import Derived.Shelf.Abstract
import Derived.Shelf.RegionOpen
import Derived.OwnWalkIn
import Derived.TacticsInMore
import Derived.LoopNIn
import Derived.LoopIn
import Derived.IntWalk
import Derived.Maps.OwnIn
import Derived.Outline
import Derived.Deep.RegionHeld3
import Derived.Deep.AppendLies
namespace Go.Proofs.Ytammacofhdbgcaa
open Go.RowKit
set_option linter.unusedSimpArgs false
set_option linter.unusedVariables false

/-- The match of a candidate. -/
def mof (s : ByteArray) (p e : Nat) (a b c lits : Int) (q : Nat) : Int × Int × Int × Int :=
  ((p : Int) - (q : Int), (cmn s (e - p) q p : Nat), (Rval a b c ((p : Int) - (q : Int)) lits).1, mgain (cmn s (e - p) q p : Nat) (Rval a b c ((p : Int) - (q : Int)) lits).1)
/-- The matches of some candidates. -/
def mofs (s : ByteArray) (p e : Nat) (a b c lits : Int) (l : List Nat) : List (Int × Int × Int × Int) := l.map (mof s p e a b c lits)
theorem mofs_len (s : ByteArray) (p e : Nat) (a b c lits : Int) (l : List Nat) : (mofs s p e a b c lits l).length = l.length := by simp [mofs]
theorem mofs_get (s : ByteArray) (p e : Nat) (a b c lits : Int) (l : List Nat) (i : Nat) (h : i < l.length) : (mofs s p e a b c lits l).getD i (0, 0, 0, 0) = mof s p e a b c lits (l.getD i 0) := by
  simp [mofs, List.getD_eq_getElem?_getD, h]
theorem mofs_take (s : ByteArray) (p e : Nat) (a b c lits : Int) (l : List Nat) (k : Nat) : (mofs s p e a b c lits l).take k = mofs s p e a b c lits (l.take k) := by simp [mofs, List.map_take]
end Go.Proofs.Ytammacofhdbgcaa
namespace Go.Proofs.Ytammacofhdbgcaa
open Go.RowKit
set_option linter.unusedSimpArgs false
set_option linter.unusedVariables false

/-- The cells of matches. -/
def flatM (ms : List (Int × Int × Int × Int)) : List Value := ms.flatMap fun q => [.int .i64 q.1, .int .i64 q.2.1, .int .i64 q.2.2.1, .int .i64 q.2.2.2]
theorem flatM_len (ms : List (Int × Int × Int × Int)) : (flatM ms).length = ms.length * 4 := by
  induction ms with
  | nil => rfl
  | cons q ms ih =>
    unfold flatM at ih ⊢
    simp only [List.flatMap_cons, List.length_append, ih, List.length_cons, List.length_nil]
    omega
theorem flatM_append (ms rs : List (Int × Int × Int × Int)) : flatM (ms ++ rs) = flatM ms ++ flatM rs := by simp [flatM]
theorem flatM_get : ∀ (ms : List (Int × Int × Int × Int)) (i : Nat), i < ms.length → (flatM ms)[i * 4]? = some (.int .i64 (ms.getD i (0, 0, 0, 0)).1) ∧ (flatM ms)[i * 4 + 1]? = some (.int .i64 (ms.getD i (0, 0, 0, 0)).2.1) ∧ (flatM ms)[i * 4 + 2]? = some (.int .i64 (ms.getD i (0, 0, 0, 0)).2.2.1) ∧ (flatM ms)[i * 4 + 3]? = some (.int .i64 (ms.getD i (0, 0, 0, 0)).2.2.2)
  | [], i, h => by simp at h
  | q :: ms, 0, _ => by simp [flatM]
  | q :: ms, i + 1, h => by
    obtain ⟨h1, h2, h3, h4⟩ := flatM_get ms i (by simpa using h)
    have e : ∀ j, (flatM (q :: ms))[j + 4]? = (flatM ms)[j]? := fun j => by simp [flatM]
    rw [show (i + 1) * 4 = i * 4 + 4 by omega, show i * 4 + 4 + 1 = (i * 4 + 1) + 4 by omega, show i * 4 + 4 + 2 = (i * 4 + 2) + 4 by omega, show i * 4 + 4 + 3 = (i * 4 + 3) + 4 by omega, e, e, e, e]
    simpa using ⟨h1, h2, h3, h4⟩
theorem RowM.of_own {w : World} {base : Nat} {e : TypeId} {a : Option Addr} {n m cap : Nat} {ms : List (Int × Int × Int × Int)} (h : w.ownsRow base e 4 (.slice a m cap) n (flatM ms)) (hn : n = ms.length) : RowM w a ms := by
  obtain ⟨hl, h⟩ := h
  rcases h with ⟨h1, rfl⟩ | ⟨g, cap, cur, hv, hg, hh, hn2, hm, hs, ht⟩
  · exact .inl (List.length_eq_zero_iff.1 hn.symm)
  · cases hv
    refine .inr ⟨g, 0, rfl, (Array.getElem?_eq_some_iff.1 hh).1, fun i hi => ?_⟩
    obtain ⟨f1, f2, f3, f4⟩ := flatM_get ms i hi
    have key : ∀ j, j < n * 4 → w.cell? ⟨g, 0 + j, none⟩ = (flatM ms)[j]? := fun j hj => by
      have h1 : w.cell? ⟨g, 0 + j, none⟩ = cur[j]? := by simp [World.cell?, hh]
      have h2 : (cur.toList.take (n * 4))[j]? = cur.toList[j]? := by rw [List.getElem?_take]; rw [if_pos hj]
      rw [h1, ← Array.getElem?_toList, ← h2, ht]
    refine ⟨(key (i * 4) (by omega)).trans f1, ?_, ?_, ?_⟩
    · rw [Nat.add_assoc]; exact (key (i * 4 + 1) (by omega)).trans f2
    · rw [Nat.add_assoc]; exact (key (i * 4 + 2) (by omega)).trans f3
    · rw [Nat.add_assoc]; exact (key (i * 4 + 3) (by omega)).trans f4
theorem infoMatch : (Try.prog.info? 32).map (fun i => (i.zero, i.size, i.bytes)) = some (some (.agg #[.int .i64 0, .int .i64 0, .int .i64 0, .int .i64 0]), 4, 32) := by kernel_rfl
end Go.Proofs.Ytammacofhdbgcaa
namespace Go.Proofs.Ytammacofhdbgcaa
open Go.RowKit
set_option linter.unusedSimpArgs false
set_option linter.unusedVariables false
open Go.Shelf
attribute [local go_sem] Oper.semAt_some

theorem yes_no {e : Ending} {A B : Prop} (h : (e = .returned (.bool true) ∧ A) ∨ (e = .returned (.bool false) ∧ B)) : ∃ b, e = .returned (.bool b) ∧ ((b = true ∧ A) ∨ (b = false ∧ B)) := by
  rcases h with ⟨h1, h2⟩ | ⟨h1, h2⟩
  · exact ⟨true, h1, .inl ⟨rfl, h2⟩⟩
  · exact ⟨false, h1, .inr ⟨rfl, h2⟩⟩
set_option maxRecDepth 100000 in
set_option maxHeartbeats 2000000 in
theorem matches_iter (s : ByteArray) (p e : Nat) (a b c lits : Int) (L : List Nat) (pl : Option Addr) (cl bl bs bp be br bt l : Nat) (hp : p ≤ 1048576) (hLL : L.length ≤ 64) (hL : ∀ q ∈ L, q < p) (hs : s.size ≤ 1048576) (hpe : p ≤ e) (hes : e ≤ s.size) (hc : chkL true [a, b, c] = 0) (hli : 0 ≤ lits)
    (J : Nat → World → Prop) (Jx : World → Prop) (W : World)
    (hst : ∀ i X Y, Below X.heap.size X Y → J i X → J i Y)
    (hF : ∀ i X, J i X → X.cell? ⟨bl, 0, none⟩ = some (.slice pl (nats L).length cl) ∧ X.cell? ⟨bs, 0, none⟩ = some (.string s) ∧ X.cell? ⟨bp, 0, none⟩ = some (.int .i64 (p : Int)) ∧ X.cell? ⟨be, 0, none⟩ = some (.int .i64 (e : Int)) ∧ X.cell? ⟨br, 0, none⟩ = some (.int .i64 a) ∧ X.cell? ⟨br, 1, none⟩ = some (.int .i64 b) ∧ X.cell? ⟨br, 2, none⟩ = some (.int .i64 c) ∧ X.cell? ⟨bt, 0, none⟩ = some (.int .i64 lits) ∧ Row .i64 X pl (nats L))
    (hr : ∀ i X, i < L.length → J i X → RoundOk Try.prog l #[.agg #[.int .i64 (mof s p e a b c lits (L.getD i 0)).1, .int .i64 (mof s p e a b c lits (L.getD i 0)).2.1, .int .i64 (mof s p e a b c lits (L.getD i 0)).2.2.1, .int .i64 (mof s p e a b c lits (L.getD i 0)).2.2.2]] X (J (i + 1)) Jx) (h0 : J 0 W) :
    Calls Try.prog 83 #[.func (.yield l) #[] #[], .pointer (some ⟨bl, 0, none⟩), .pointer (some ⟨bs, 0, none⟩), .pointer (some ⟨bp, 0, none⟩), .pointer (some ⟨be, 0, none⟩), .pointer (some ⟨br, 0, none⟩), .pointer (some ⟨bt, 0, none⟩)] W fun e W' => (∃ v, e = .returned v) ∧ (J L.length W' ∨ Jx W') := by
  refine callsIn_wide (n := 0) |>.1 (callsIn_of_wp Try.func83 rfl trivial ?_ rfl)
  simp only [Try.ntmps83, List.size_toArray, List.length_cons, List.length_nil, Nat.reduceAdd, Nat.reduceSub, Array.replicate_succ, Array.replicate_zero, List.push_toArray, List.append_toArray, List.nil_append, List.cons_append]
  have hc0 := (hF 0 W h0).1
  have hlen : (nats L).length = L.length := by simp [nats]
  gi_wp2
  gi_loopw [16] (fun v wr => ∃ k : Nat, v = .int .i64 (k : Int) ∧ k ≤ L.length ∧ J k wr) (fun v _ => L.length - (intOf v).toNat)
  case atStart => exact ⟨0, rfl, by omega, h0⟩
  case round =>
    clear hc0
    obtain ⟨k, rfl, hk, hj⟩ := hrel
    by_cases hlt : k < L.length
    · obtain ⟨x0, x1, x2, x3, x4, x5, x6, x7, hrow⟩ := hF _ wr hj
      obtain ⟨b1, o1, rfl, hb1, hc1⟩ := hrow.at (i := k) (by omega)
      have c1 := hc1 k (by omega)
      obtain ⟨q, hq⟩ : ∃ q, L.getD k 0 = q := ⟨_, rfl⟩
      have hn : (nats L).getD k 0 = (q : Int) := by rw [← hq]; simp [nats, List.getD_eq_getElem?_getD, hlt]
      rw [hn] at c1
      have i0 : (0 : Int) ≤ (k : Int) := by omega
      have i1 : (k : Int) < ((nats L).length : Int) := by omega
      have HST := Lib.hid hst
      have HJ := Lib.hid hj
      clear hc1 hn hst hj hrow
      have hqp : q < p := hL q (by rw [← hq]; simp [List.getD_eq_getElem?_getD, hlt])
      have hcm : wcom s (q : Int) (p : Int) (e : Int) = (((cmn s (e - p) q p : Nat) : Int), 0) := by
        unfold wcom
        rw [if_neg (by omega), if_pos ⟨by omega, by omega, by omega, by omega⟩]
        rw [show ((e : Int) - (p : Int)).toNat = e - p by omega, Int.toNat_natCast, Int.toNat_natCast]
      have qC := fun w => wcommon_p s (q : Int) (p : Int) (e : Int) w (by omega)
      rw [hcm] at qC
      have qV := fun w => value_p a b c ((p : Int) - (q : Int)) lits w
      obtain ⟨n, hn9⟩ : ∃ n, cmn s (e - p) q p = n := ⟨_, rfl⟩
      rw [hn9] at qC
      dsimp only at qC
      have hn10 : n ≤ e - p := by rw [← hn9]; exact cmn_le _ _ _ _
      obtain ⟨v, hv1, hv2, hv3, _⟩ := rval_ok (a := a) (b := b) (c := c) (d := (p : Int) - (q : Int)) (l := lits) hc (by omega) (by omega) hli
      rw [hv1] at qV
      have hmo : mof s p e a b c lits q = ((p : Int) - (q : Int), (n : Int), v, mgain (n : Int) v) := by unfold mof; rw [hn9, hv1]
      have hr2 := fun X => hr k X hlt
      rw [hq, hmo] at hr2
      dsimp only at qV hr2
      have HR := Lib.hid hr2
      clear hcm hn9 hv1 hmo hr2 hr
      gi_wp2
      refine ⟨trivial, rfl, (callsIn_wide.2 (qC _)).mono ?_⟩
      rintro e' w1 ⟨rfl, hbA⟩
      have hsA := hbA.size
      have hj1 := HST.out k wr w1 hbA HJ.out
      obtain ⟨x0, x1, x2, x3, x4, x5, x6, x7, _⟩ := hF _ w1 hj1
      have HJ1 := Lib.hid hj1
      clear hj1
      gi_wp2
      refine ⟨trivial, rfl, (callsIn_wide.2 (qV _)).mono ?_⟩
      rintro e' w2 ⟨rfl, hbB⟩
      have hj2 := HST.out k w1 w2 hbB HJ1.out
      obtain ⟨x0, x1, x2, x3, x4, x5, x6, x7, _⟩ := hF _ w2 hj2
      have HJ2 := Lib.hid hj2
      clear hj2
      gi_wp2
      have hbd : Below w2.heap.size w2 w2.drew := (Below.refl _ _).drew
      have hj3 := HST.out k w2 w2.drew hbd HJ2.out
      obtain ⟨x0, x1, x2, x3, x4, x5, x6, x7, _⟩ := hF _ w2.drew hj3
      have hRR := HR.out _ hj3
      obtain ⟨fn, tmps, assign, body, hy, hRo⟩ := hRR
      have qG := fun w => gain_s (n : Int) v w (by omega) (by omega) (by omega) (by omega)
      generalize mgain (n : Int) v = g at qG hy
      clear hj3 HJ2
      have hmx : Try.prog.follows .mixedOrders = true := by kernel_rfl
      have hwr : IntKind.i64.wrap ((p : Int) - (q : Int)) = (p : Int) - (q : Int) := IntWalk.i64_in _ (by omega)
      gi_region_with_o (first | (refine ⟨trivial, rfl, ?_⟩; (with_reducible refine (callsIn_wide.2 (qG _)).mono ?_); rintro e' w' ⟨rfl, rfl⟩) | (refine ⟨rfl, hRo.mono ?_⟩; rintro e' W4 h; obtain ⟨bo, rfl, hbo⟩ := yes_no h))
      all_goals rcases hbo with ⟨rfl, hJ3⟩ | ⟨rfl, hJx3⟩
      all_goals gi_wp2
      all_goals first
        | (go_roundw
           case rel => exact ⟨k + 1, by go_num, by omega, hJ3⟩
           case measure => go_light; simp [intOf] <;> omega)
        | (refine bodyPost_ret (results_none rfl _ _ _) rfl ?_
           exact ⟨⟨_, rfl⟩, .inr hJx3⟩)
    · have hkk : L.length = k := by omega
      have hj2 : J L.length wr := by rw [hkk]; exact hj
      clear hkk
      gi_wp2
      go_end0
      exact ⟨⟨_, rfl⟩, .inl hj2⟩
end Go.Proofs.Ytammacofhdbgcaa
namespace Go.Proofs.Ytammacofhdbgcaa
open Go.RowKit
set_option linter.unusedSimpArgs false
set_option linter.unusedVariables false
open Go.Shelf
attribute [local go_sem] Oper.semAt_some

theorem candAll_lt (s : ByteArray) (p e l : Nat) : ∀ q ∈ candAll s p e l, q < p := by
  intro q hq
  unfold candAll at hq
  split at hq
  · simp at hq
  · simp only [List.mem_reverse, plc, List.mem_filter, List.mem_range'_1] at hq
    have : wback p l ≤ p := by unfold wback; omega
    omega
/-- What hands back matches and an error: the slice leads to these matches; it lies in new memory. -/
def AllPost (R : List (Int × Int × Int × Int) × Int) (w : World) (e : Ending) (w' : World) : Prop :=
  ∃ pa ca, R.1.length ≤ ca ∧ e = .returned (.tuple #[.slice pa R.1.length ca, .int .i64 R.2]) ∧ (∀ g, (Value.slice pa R.1.length ca).ownBlock = some g → w.heap.size ≤ g) ∧ RowM w' pa R.1 ∧ Below w.heap.size w w'
theorem allPost_err (x : Int) {w w' : World} (hb : Below w.heap.size w w') : AllPost ([], x) w (.returned (.tuple #[.slice none 0 0, .int .i64 x])) w' :=
  ⟨none, 0, Nat.le_refl _, rfl, fun g h => by simp [Value.ownBlock] at h, .inl rfl, hb⟩
theorem But.keep {S : Nat → Prop} {W X Y : World} (h : But S W X) (hk : Keep W.heap.size X Y) : But S W Y :=
  ⟨hk.os.trans h.os, hk.tape.trans h.tape, hk.output.trans h.output, Nat.le_trans h.size hk.size, fun k o hn ho => hk.block k o (h.block k o hn ho) (.inl (Array.getElem?_eq_some_iff.1 ho).1)⟩
theorem But.mono {S S' : Nat → Prop} {X Y : World} (h : But S X Y) (hS : ∀ k, S k → S' k) : But S' X Y :=
  ⟨h.os, h.tape, h.output, h.size, fun k o hn ho => h.block k o (fun hs => hn (hS k hs)) ho⟩
theorem But.later {S : Nat → Prop} {W X Y : World} (h : But S W X) (hb : Below W.heap.size X Y) : But S W Y :=
  ⟨hb.os.trans h.os, hb.tape.trans h.tape, hb.output.trans h.output, Nat.le_trans h.size hb.size, fun k o hn ho => by rw [hb.block k (Array.getElem?_eq_some_iff.1 ho).1]; exact h.block k o hn ho⟩
theorem RowM.keep {B : Nat} {w w' : World} {a : Option Addr} {ms : List (Int × Int × Int × Int)} (h : RowM w a ms) (hk : Keep B w w') : RowM w' a ms := by
  rcases h with h | ⟨b, off, ha, hlt, hc⟩
  · exact .inl h
  · refine .inr ⟨b, off, ha, Nat.lt_of_lt_of_le hlt hk.size, fun i hi => ?_⟩
    obtain ⟨h1, h2, h3, h4⟩ := hc i hi
    exact ⟨hk.cell h1, hk.cell h2, hk.cell h3, hk.cell h4⟩
theorem own_slice4 {w : World} {base : Nat} {e : TypeId} {v : Value} {n : Nat} {xs : List Value} (h : w.ownsRow base e 4 v n xs) : ∃ a cap, v = .slice a n cap := by
  rcases h.2 with ⟨rfl, rfl⟩ | ⟨g, cap, cur, rfl, _⟩
  · exact ⟨none, 0, rfl⟩
  · exact ⟨_, cap, rfl⟩
theorem own_cap4 {w : World} {base : Nat} {e : TypeId} {a : Option Addr} {n m cap : Nat} {xs : List Value} (h : w.ownsRow base e 4 (.slice a m cap) n xs) : m ≤ cap := by
  rcases h.2 with ⟨h1, rfl⟩ | ⟨g, cap', cur, h1, _, _, h2, _⟩
  · simp at h1; omega
  · simp at h1; omega
theorem own_cells4 {w : World} {base : Nat} {e : TypeId} {v : Value} {n : Nat} {xs : List Value} (h : w.ownsRow base e 4 v n xs) : ∀ g, v.ownBlock = some g → ∃ c t q, w.heap[g]? = some (.cells c t q) := by
  intro g hg
  rcases h.2 with ⟨rfl, rfl⟩ | ⟨g', cap, cur, rfl, _, hh, _⟩
  · cases hg
  · cases hg; exact ⟨_, _, _, hh⟩
theorem own_base4 {w : World} {base : Nat} {e : TypeId} {v : Value} {n : Nat} {xs : List Value} (h : w.ownsRow base e 4 v n xs) : ∀ g, v.ownBlock = some g → base ≤ g := by
  intro g hg
  rcases h.2 with ⟨rfl, rfl⟩ | ⟨g', cap, cur, rfl, hb, _⟩
  · cases hg
  · cases hg; exact hb
set_option maxRecDepth 100000 in
set_option maxHeartbeats 2000000 in
theorem mall_1 (s : ByteArray) (p e l d : Nat) (a b c lits : Int) (w : World) (hs : s.size ≤ 1048576) (hpe : p ≤ e) (hes : e ≤ s.size) (hl1 : 10 ≤ l) (hl2 : l ≤ 27) (hd1 : 1 ≤ d) (hd2 : d ≤ 64) (hli : 0 ≤ lits) (hw : wchk s.size p e l = 0) (hc : chkL true [a, b, c] = 0) (C : List Nat) (HC : Hid ((candAll s p e l).take d = C)) :
    Calls Try.prog 16 #[.string s, .int .i64 (p : Int), .int .i64 (e : Int), .int .i64 (l : Int), .int .i64 (d : Int), .agg #[.int .i64 a, .int .i64 b, .int .i64 c], .int .i64 lits] w (AllPost (mofs s p e a b c lits C, 0) w) := by
  have q1 := fun w => wcheck_p s p e l w (by omega)
  rw [hw] at q1
  have q2 := fun w => check_p a b c w
  rw [hc] at q2
  have q3 := fun w => cand_1 s p e l d w hs hpe hes hl1 hl2 hd2 hw _ rfl
  rw [HC.out] at q3
  have hCl : C.length ≤ 64 := by rw [← HC.out]; simp; omega
  have hCm : ∀ q ∈ C, q < p := fun q hq => by rw [← HC.out] at hq; exact candAll_lt s p e l q (List.mem_of_mem_take hq)
  have g1 : ¬ (d : Int) < 1 := by omega
  have g2 : ¬ (64 : Int) < (d : Int) := by omega
  have g3 : ¬ lits < 0 := by omega
  have HW := Lib.hid hw
  have HCH := Lib.hid hc
  have HCM := Lib.hid hCm
  clear hw hc hCm
  refine calls_of_marks Try.func16 rfl ?_
  simp only [Try.ntmps16, List.size_toArray, List.length_cons, List.length_nil, Nat.reduceAdd, Nat.reduceSub, Array.replicate_succ, Array.replicate_zero, List.push_toArray, List.append_toArray, List.nil_append, List.cons_append]
  go_wp2_with (first | (go_at_call 51; refine (q1 _).mono ?_; rintro e w1 ⟨rfl, hb⟩; have hsz := hb.size; (try simp at hsz); (first | (have hbl := blater2 HA (by first | exact Nat.le_refl _ | (simp; done) | (simp; omega)) hb; obtain ⟨hcc, hff, HA, hne, hne'⟩ := hbl) | (obtain ⟨hcc, hff, HA, hne, hne'⟩ := blater1 hb)); (try simp only [World.size_alloc, World.size_setCell] at HA)) | (go_at_call 52; refine (q2 _).mono ?_; rintro e w1 ⟨rfl, hb⟩; have hsz := hb.size; (try simp at hsz); (first | (have hbl := blater2 HA (by first | exact Nat.le_refl _ | (simp; done) | (simp; omega)) hb; obtain ⟨hcc, hff, HA, hne, hne'⟩ := hbl) | (obtain ⟨hcc, hff, HA, hne, hne'⟩ := blater1 hb)); (try simp only [World.size_alloc, World.size_setCell] at HA)) | (go_at_call 53; refine (q3 _).mono ?_; rintro e w1 ⟨pa, ca, hca, rfl, hrA, hb⟩; have hsz := hb.size; (try simp at hsz); (first | (have hbl := blater2 HA (by first | exact Nat.le_refl _ | (simp; done) | (simp; omega)) hb; obtain ⟨hcc, hff, HA, hne, hne'⟩ := hbl) | (obtain ⟨hcc, hff, HA, hne, hne'⟩ := blater1 hb)); (try simp only [World.size_alloc, World.size_setCell] at HA)) | go_in)
  repeat' (first | (go_region <;> go_wp2_with (first | (go_at_call 51; refine (q1 _).mono ?_; rintro e w1 ⟨rfl, hb⟩; have hsz := hb.size; (try simp at hsz); (first | (have hbl := blater2 HA (by first | exact Nat.le_refl _ | (simp; done) | (simp; omega)) hb; obtain ⟨hcc, hff, HA, hne, hne'⟩ := hbl) | (obtain ⟨hcc, hff, HA, hne, hne'⟩ := blater1 hb)); (try simp only [World.size_alloc, World.size_setCell] at HA)) | (go_at_call 52; refine (q2 _).mono ?_; rintro e w1 ⟨rfl, hb⟩; have hsz := hb.size; (try simp at hsz); (first | (have hbl := blater2 HA (by first | exact Nat.le_refl _ | (simp; done) | (simp; omega)) hb; obtain ⟨hcc, hff, HA, hne, hne'⟩ := hbl) | (obtain ⟨hcc, hff, HA, hne, hne'⟩ := blater1 hb)); (try simp only [World.size_alloc, World.size_setCell] at HA)) | (go_at_call 53; refine (q3 _).mono ?_; rintro e w1 ⟨pa, ca, hca, rfl, hrA, hb⟩; have hsz := hb.size; (try simp at hsz); (first | (have hbl := blater2 HA (by first | exact Nat.le_refl _ | (simp; done) | (simp; omega)) hb; obtain ⟨hcc, hff, HA, hne, hne'⟩ := hbl) | (obtain ⟨hcc, hff, HA, hne, hne'⟩ := blater1 hb)); (try simp only [World.size_alloc, World.size_setCell] at HA)) | go_in)))
  obtain ⟨W0, hW0⟩ : ∃ W0, (((((((w1.alloc (.cells #[.slice none 0 0] 27)).alloc (.cells #[.string s] 9)).alloc (.cells #[.int .i64 (p : Int)] 3)).alloc (.cells #[.int .i64 (e : Int)] 3)).alloc (.cells #[.slice pa C.length ca] 37)).alloc (.cells #[.int .i64 a, .int .i64 b, .int .i64 c] 23)).alloc (.cells #[.int .i64 lits] 3)) = W0 := ⟨_, rfl⟩
  have B0 : Below w.heap.size w W0 := by
    rw [← hW0]
    repeat' (first | exact Below.refl _ _ | refine Below.drew ?_ | refine below_drewN ?_ _ | refine Below.alloc ?_ (by first | omega | (simp <;> omega)) _ | refine Below.setCell ?_ (by first | omega | (simp <;> omega)) _ | refine Below.trans ?_ (Below.mono (by assumption) (by first | omega | (simp <;> omega))))
  have BA : Below w1.heap.size w1 W0 := by
    rw [← hW0]
    repeat' (first | exact Below.refl _ _ | refine Below.alloc ?_ (by first | (simp; done) | (simp; omega)) _)
  have hw1 : w.heap.size + 1 ≤ w1.heap.size := by omega
  have xo : W0.cell? ⟨w1.heap.size, 0, none⟩ = some (.slice none 0 0) := by rw [← hW0]; simp [go_sem]
  have fo : W0.frozen? ⟨w1.heap.size, 0, none⟩ = false := by rw [← hW0]; simp [go_sem]
  have xs : W0.cell? ⟨w1.heap.size + 1, 0, none⟩ = some (.string s) := by rw [← hW0]; simp [go_sem]
  have xp : W0.cell? ⟨w1.heap.size + 1 + 1, 0, none⟩ = some (.int .i64 (p : Int)) := by rw [← hW0]; simp [go_sem]
  have xe : W0.cell? ⟨w1.heap.size + 1 + 1 + 1, 0, none⟩ = some (.int .i64 (e : Int)) := by rw [← hW0]; simp [go_sem]
  have xl : W0.cell? ⟨w1.heap.size + 1 + 1 + 1 + 1, 0, none⟩ = some (.slice pa C.length ca) := by rw [← hW0]; simp [go_sem]
  have xr : W0.cell? ⟨w1.heap.size + 1 + 1 + 1 + 1 + 1, 0, none⟩ = some (.int .i64 a) ∧ W0.cell? ⟨w1.heap.size + 1 + 1 + 1 + 1 + 1, 1, none⟩ = some (.int .i64 b) ∧ W0.cell? ⟨w1.heap.size + 1 + 1 + 1 + 1 + 1, 2, none⟩ = some (.int .i64 c) := by rw [← hW0]; refine ⟨?_, ?_, ?_⟩ <;> simp [go_sem]
  have xt : W0.cell? ⟨w1.heap.size + 1 + 1 + 1 + 1 + 1 + 1, 0, none⟩ = some (.int .i64 lits) := by rw [← hW0]; simp [go_sem]
  have HRW := Lib.hid hrA
  have HBA := Lib.hid BA
  have S0 : w1.heap.size + 7 ≤ W0.heap.size := by rw [← hW0]; simp
  rw [hW0]
  clear hW0 hcc hff HA hne hne' hsz hb BA hrA g1 g2 g3 q1 q2 q3
  obtain ⟨bo, hbo⟩ : ∃ n, w1.heap.size = n := ⟨_, rfl⟩
  obtain ⟨bs, hbs⟩ : ∃ n, bo + 1 = n := ⟨_, rfl⟩
  obtain ⟨bp, hbp⟩ : ∃ n, bs + 1 = n := ⟨_, rfl⟩
  obtain ⟨be, hbe⟩ : ∃ n, bp + 1 = n := ⟨_, rfl⟩
  obtain ⟨bl, hbl⟩ : ∃ n, be + 1 = n := ⟨_, rfl⟩
  obtain ⟨br, hbr⟩ : ∃ n, bl + 1 = n := ⟨_, rfl⟩
  obtain ⟨bt, hbt⟩ : ∃ n, br + 1 = n := ⟨_, rfl⟩
  rw [hbo] at S0 hw1
  simp only [hbo, hbs, hbp, hbe, hbl, hbr, hbt] at xo fo xs xp xe xl xr xt ⊢
  obtain ⟨i4, hi4, hz0, hz1, hz2⟩ := info_parts infoMatch
  have FR := Lib.hid (⟨xl, xs, xp, xe, xr.1, xr.2.1, xr.2.2, xt⟩ : W0.cell? ⟨bl, 0, none⟩ = some (.slice pa C.length ca) ∧ W0.cell? ⟨bs, 0, none⟩ = some (.string s) ∧ W0.cell? ⟨bp, 0, none⟩ = some (.int .i64 (p : Int)) ∧ W0.cell? ⟨be, 0, none⟩ = some (.int .i64 (e : Int)) ∧ W0.cell? ⟨br, 0, none⟩ = some (.int .i64 a) ∧ W0.cell? ⟨br, 1, none⟩ = some (.int .i64 b) ∧ W0.cell? ⟨br, 2, none⟩ = some (.int .i64 c) ∧ W0.cell? ⟨bt, 0, none⟩ = some (.int .i64 lits))
  clear xs xp xe xl xr xt
  refine wp_rangeK_box (gf := 83) (lb := #[.pointer (some ⟨bl, 0, none⟩), .pointer (some ⟨bs, 0, none⟩), .pointer (some ⟨bp, 0, none⟩), .pointer (some ⟨be, 0, none⟩), .pointer (some ⟨br, 0, none⟩), .pointer (some ⟨bt, 0, none⟩)]) rfl (enters_of Try.func83 (by kernel_rfl) rfl) (fun _ => False) (fun _ h => h.elim) C.length (fun i => #[.agg #[.int .i64 (mof s p e a b c lits (C.getD i 0)).1, .int .i64 (mof s p e a b c lits (C.getD i 0)).2.1, .int .i64 (mof s p e a b c lits (C.getD i 0)).2.2.1, .int .i64 (mof s p e a b c lits (C.getD i 0)).2.2.2]]) (fun _ => rfl)
    (fun i W => ∃ ad cap, W.cell? ⟨bo, 0, none⟩ = some (.slice ad i cap) ∧ W.frozen? ⟨bo, 0, none⟩ = false ∧ W.ownsRow W0.heap.size 32 4 (.slice ad i cap) i (flatM (mofs s p e a b c lits (C.take i))) ∧ But (fun k => k = bo) W0 W)
    (fun co W => False)
    (fun i x W => W.cell? ⟨x, 0, none⟩ = some (.int .i64 (mof s p e a b c lits (C.getD i 0)).1) ∧ W.cell? ⟨x, 1, none⟩ = some (.int .i64 (mof s p e a b c lits (C.getD i 0)).2.1) ∧ W.cell? ⟨x, 2, none⟩ = some (.int .i64 (mof s p e a b c lits (C.getD i 0)).2.2.1) ∧ W.cell? ⟨x, 3, none⟩ = some (.int .i64 (mof s p e a b c lits (C.getD i 0)).2.2.2) ∧ W0.heap.size ≤ x)
    ?hI ?hIS (fun W => True) (fun W => True) ?hF ?hG ?hIx ?hBx ?h0 ?hround ?hiter ?hdone ?hstop
  case hI =>
    rintro i X Y hk ⟨ad, cap, y1, y2, y6, y8⟩
    exact ⟨ad, cap, hk.cell y1, (hk.frozen y1).trans y2, hk.ownsRow y6, y8.keep hk⟩
  case hIS =>
    rintro i X Y hb ⟨ad, cap, y1, y2, y6, y8⟩
    exact ⟨ad, cap, hb.cell (fun h => h) y1, (hb.frozen (fun h => h) y1).trans y2, hb.ownsRow y6 (fun k hk h => h), y8.trans (hb.mono fun k hk => hk.elim)⟩
  case hF => exact fun X Y hk h => h
  case hG => exact fun X Y hk h => h
  case hIx => exact fun co X Y hk h => h
  case hBx =>
    rintro i x X Y hk ⟨y1, y2, y3, y4, y5⟩
    exact ⟨hk.cell y1, hk.cell y2, hk.cell y3, hk.cell y4, y5⟩
  case h0 =>
    exact ⟨none, 0, xo, fo, World.ownsRow_nil _ _ _ _, But.refl _ _⟩
  case hround =>
    intro l' i W hi hI hl'
    have HI := Lib.hid hI
    obtain ⟨⟨md, ml, mv, mg⟩, hm⟩ : ∃ m, mof s p e a b c lits (C.getD i 0) = m := ⟨_, rfl⟩
    have htk : flatM (mofs s p e a b c lits (C.take (i + 1))) = flatM (mofs s p e a b c lits (C.take i)) ++ [.int .i64 md, .int .i64 ml, .int .i64 mv, .int .i64 mg] := by
      have h1 : C.take (i + 1) = C.take i ++ [C.getD i 0] := by
        rw [List.take_succ_eq_append_getElem hi]
        simp [List.getD_eq_getElem?_getD, hi]
      rw [h1]
      unfold mofs
      rw [List.map_append, flatM_append]
      simp only [List.map_cons, List.map_nil, hm]
      rfl
    have HTK := Lib.hid htk
    simp only [hm]
    clear hI htk hm
    gi_wp2
    have hal : Below W.heap.size W (W.alloc (.cells #[.int .i64 md, .int .i64 ml, .int .i64 mv, .int .i64 mg] 32)) := (Below.refl _ W).alloc (Nat.le_refl _) _
    have hsW : W0.heap.size ≤ W.heap.size := by obtain ⟨ad, cap, y1, y2, y6, y8⟩ := HI.out; exact y8.size
    refine ⟨keepsFrom_of_below hal, Stay.of_below hal, ?_, W.heap.size, ⟨by simp [go_sem], by simp [go_sem], by simp [go_sem], by simp [go_sem], hsW⟩, ?_⟩
    · obtain ⟨ad, cap, y1, y2, y6, y8⟩ := HI.out
      have hk := Keep.of_below (B := W0.heap.size) hal
      exact ⟨ad, cap, hk.cell y1, (hk.frozen y1).trans y2, hk.ownsRow y6, y8.keep hk⟩
    clear hal HI
    rintro W2 hl2 ⟨ad, cap, y1, y2, y6, y8⟩ ⟨z1, z2, z3, z4, z5⟩
    obtain ⟨X, hX⟩ : ∃ X, W.heap.size = X := ⟨_, rfl⟩
    rw [hX] at z1 z2 z3 z4 z5 ⊢
    clear hX hsW
    have HY6 := Lib.hid y6
    have HY8 := Lib.hid y8
    have hs8 := y8.size
    clear y6 y8
    have CN : ∀ (j : Nat) (u : Value), [Value.int .i64 md, .int .i64 ml, .int .i64 mv, .int .i64 mg][j]? = some u → (W2.alloc (.cells #[.int .i64 md, .int .i64 ml, .int .i64 mv, .int .i64 mg] 32)).cell? ((⟨W2.heap.size, 0, none⟩ : Addr).add j) = some u := by
      intro j u hj
      match j, hj with
      | 0, hj => simp at hj; subst hj; simp [Addr.add, go_sem]
      | 1, hj => simp at hj; subst hj; simp [Addr.add, go_sem]
      | 2, hj => simp at hj; subst hj; simp [Addr.add, go_sem]
      | 3, hj => simp at hj; subst hj; simp [Addr.add, go_sem]
    have C1 : ∀ u ∈ [Value.int .i64 md, .int .i64 ml, .int .i64 mv, .int .i64 mg], u.oneCell' = true := by
      intro u hu
      simp at hu
      rcases hu with rfl | rfl | rfl | rfl <;> rfl
    have HCN := Lib.hid CN
    have HC1 := Lib.hid C1
    clear CN C1
    gi_wp2_with (gi_at_builtin; refine wpListIn_append_own_at _ rfl _ _ 27 rfl W0.heap.size 32 i4 (.agg #[.int .i64 0, .int .i64 0, .int .i64 0, .int .i64 0]) 4 32 Try.underlying27 hi4 hz0 hz1 hz2 rfl (by decide) _ _ _ rfl (HY6.out.alloc _) ⟨W2.heap.size, 0, none⟩ 1 1 [.int .i64 md, .int .i64 ml, .int .i64 mv, .int .i64 mg] rfl rfl HCN.out HC1.out ?_ ?_ ?_ ?_; (unfold maxLen; omega); omega; (simp; omega); intro v' w4 ho' hg4 hnil hat; obtain ⟨ad', cap', rfl⟩ := own_slice4 ho'; have hb4 : Below W0.heap.size W2 w4 := ((Below.refl _ W2).alloc (by omega) _).grown hg4 (by simp; omega) (own_base4 HY6.out); have u1 := (hb4.cell (p := ⟨bo, 0, none⟩) (by simp; omega)).trans y1; have u2 := (hb4.frozen (p := ⟨bo, 0, none⟩) (by simp; omega)).trans y2)
    have hs4 := hg4.size
    simp at hs4
    refine ⟨((keepsFrom_of_below ((Below.refl _ W2).alloc (Nat.le_refl _) _)).trans (keepsFrom_grown_o hg4 (own_cells4 (HY6.out.alloc _)))).trans ((KeepsOthers.setCell _ _ _).from _), ⟨ad', cap', by simp [go_sem, u1], by simp [go_sem, u2], ?_, (HY8.out.later hb4).trans (But.setCell _ _ rfl)⟩, fun _ _ h => h.elim⟩
    rw [HTK.out]
    exact World.ownsRow.kept ho' (grown_setCell_o _ _ _) (.inr (fun h => by have := own_base4 ho' _ h; simp at this; omega))
  case hiter =>
    intro l' J Jx W hb hst hJI _ hr hj
    exact (matches_iter s p e a b c lits C pa ca bl bs bp be br bt l' (by omega) hCl HCM.out hs hpe hes HCH.out hli J Jx W (fun i X Y h => hst i X Y (But.of_below h)) (fun i X h => by
      obtain ⟨ad, cap, y1, y2, y6, y8⟩ := hJI i X h
      obtain ⟨z1, z2, z3, z4, z5, z6, z7, z8⟩ := FR.out
      have hbx := y8.below HBA.out (fun k hk => by omega) (by omega)
      rw [nats_len]
      exact ⟨y8.cell (by simp; omega) z1, y8.cell (by simp; omega) z2, y8.cell (by simp; omega) z3, y8.cell (by simp; omega) z4, y8.cell (by simp; omega) z5, y8.cell (by simp; omega) z6, y8.cell (by simp; omega) z7, y8.cell (by simp; omega) z8, HRW.out.later hbx⟩) (fun i X hi hX => by
        obtain ⟨fn, tmps, assign, body, hy, hRo⟩ := hr i X hi hX
        refine ⟨fn, tmps, assign, body, hy, hRo.mono ?_⟩
        rintro e W4 (⟨h1, h2, _⟩ | ⟨h1, h2, _⟩)
        · exact .inl ⟨h1, h2⟩
        · exact .inr ⟨h1, h2⟩) hj).mono fun e W' h => ⟨h.1, h.2.imp (fun h => ⟨h, trivial⟩) (fun h => ⟨h, trivial⟩)⟩
  case hdone =>
    rintro D W hD ⟨ad, cap, y1, y2, y6, y8⟩ _ hdf
    have HY6 := Lib.hid y6
    have HY8 := Lib.hid y8
    clear y6 y8
    all_goals go_wp2
    all_goals refine ⟨by simp, .inl ⟨_, _, rfl, run_takeDeferred (by repeat' (first | exact hdf | apply setCell_deferred)), ?_⟩⟩
    all_goals go_light
    have hln : (mofs s p e a b c lits C).length = C.length := mofs_len _ _ _ _ _ _ _ _
    refine ⟨_, results_tmp2 rfl _ _ _, ad, cap, ?_, ?_, ?_, ?_, ?_⟩
    · rw [hln]; exact own_cap4 HY6.out
    · rw [hln]; rfl
    · rw [hln]; intro g hg
      have := own_base4 HY6.out g hg
      have := B0.size
      omega
    · have hrow := RowM.of_own HY6.out (by rw [mofs_len, List.length_take]; omega)
      rw [List.take_of_length_le (Nat.le_refl _)] at hrow
      exact hrow.keep (Keep.putObj (B := 0) (.deferred none) (by omega) hdf rfl)
    · exact below_putObj (HY8.out.below B0 (fun k hk => by omega) (by have := B0.size; omega)) (by have := B0.size; omega) _
  case hstop => exact fun D co W hD h => h.elim

set_option maxHeartbeats 1000000 in
theorem mall_e1 (s : ByteArray) (p e l d a b c lits : Int) (w : World) (hl : s.size ≤ 9223372036854775807) (hw : (wchk s.size p e l != 0) = true) :
    Calls Try.prog 16 #[.string s, .int .i64 p, .int .i64 e, .int .i64 l, .int .i64 d, .agg #[.int .i64 a, .int .i64 b, .int .i64 c], .int .i64 lits] w (AllPost ([], wchk s.size p e l) w) := by
  have q1 := fun w => wcheck_p s p e l w hl
  have q2 := fun w => check_p a b c w
  refine calls_of_marks Try.func16 rfl ?_
  simp only [Try.ntmps16, List.size_toArray, List.length_cons, List.length_nil, Nat.reduceAdd, Nat.reduceSub, Array.replicate_succ, Array.replicate_zero, List.push_toArray, List.append_toArray, List.nil_append, List.cons_append]
  go_wp2_with (first | (go_at_call 51; refine (q1 _).mono ?_; rintro e w1 ⟨rfl, hb⟩; have hsz := hb.size; (try simp at hsz); (first | (have hbl := blater2 HA (by first | exact Nat.le_refl _ | (simp; done) | (simp; omega)) hb; obtain ⟨hcc, hff, HA, hne, hne'⟩ := hbl) | (obtain ⟨hcc, hff, HA, hne, hne'⟩ := blater1 hb)); (try simp only [World.size_alloc, World.size_setCell] at HA)))
  repeat' (first | (go_region <;> go_wp2_with (first | (go_at_call 51; refine (q1 _).mono ?_; rintro e w1 ⟨rfl, hb⟩; have hsz := hb.size; (try simp at hsz); (first | (have hbl := blater2 HA (by first | exact Nat.le_refl _ | (simp; done) | (simp; omega)) hb; obtain ⟨hcc, hff, HA, hne, hne'⟩ := hbl) | (obtain ⟨hcc, hff, HA, hne, hne'⟩ := blater1 hb)); (try simp only [World.size_alloc, World.size_setCell] at HA)))))
  all_goals (try rw [Exit.noGoto_ret])
  all_goals go_light
  all_goals (refine ⟨.tuple #[.slice none 0 0, .int .i64 (wchk s.size p e l)], by simp [results, Try.results16, go_sem, *], allPost_err _ ?_⟩; repeat' (first | exact Below.refl _ _ | refine Below.drew ?_ | refine below_drewN ?_ _ | refine Below.alloc ?_ (by first | omega | (simp <;> omega)) _ | refine Below.setCell ?_ (by first | omega | (simp <;> omega)) _ | refine Below.trans ?_ (Below.mono (by assumption) (by first | omega | (simp <;> omega)))))

set_option maxHeartbeats 1000000 in
theorem mall_e2 (s : ByteArray) (p e l d a b c lits : Int) (w : World) (hl : s.size ≤ 9223372036854775807) (hw : wchk s.size p e l = 0) (hc : (chkL true [a, b, c] != 0) = true) :
    Calls Try.prog 16 #[.string s, .int .i64 p, .int .i64 e, .int .i64 l, .int .i64 d, .agg #[.int .i64 a, .int .i64 b, .int .i64 c], .int .i64 lits] w (AllPost ([], chkL true [a, b, c]) w) := by
  have q1 := fun w => wcheck_p s p e l w hl
  have q2 := fun w => check_p a b c w
  rw [hw] at q1
  refine calls_of_marks Try.func16 rfl ?_
  simp only [Try.ntmps16, List.size_toArray, List.length_cons, List.length_nil, Nat.reduceAdd, Nat.reduceSub, Array.replicate_succ, Array.replicate_zero, List.push_toArray, List.append_toArray, List.nil_append, List.cons_append]
  go_wp2_with (first | (go_at_call 51; refine (q1 _).mono ?_; rintro e w1 ⟨rfl, hb⟩; have hsz := hb.size; (try simp at hsz); (first | (have hbl := blater2 HA (by first | exact Nat.le_refl _ | (simp; done) | (simp; omega)) hb; obtain ⟨hcc, hff, HA, hne, hne'⟩ := hbl) | (obtain ⟨hcc, hff, HA, hne, hne'⟩ := blater1 hb)); (try simp only [World.size_alloc, World.size_setCell] at HA)) | (go_at_call 52; refine (q2 _).mono ?_; rintro e w1 ⟨rfl, hb⟩; have hsz := hb.size; (try simp at hsz); (first | (have hbl := blater2 HA (by first | exact Nat.le_refl _ | (simp; done) | (simp; omega)) hb; obtain ⟨hcc, hff, HA, hne, hne'⟩ := hbl) | (obtain ⟨hcc, hff, HA, hne, hne'⟩ := blater1 hb)); (try simp only [World.size_alloc, World.size_setCell] at HA)))
  repeat' (first | (go_region <;> go_wp2_with (first | (go_at_call 51; refine (q1 _).mono ?_; rintro e w1 ⟨rfl, hb⟩; have hsz := hb.size; (try simp at hsz); (first | (have hbl := blater2 HA (by first | exact Nat.le_refl _ | (simp; done) | (simp; omega)) hb; obtain ⟨hcc, hff, HA, hne, hne'⟩ := hbl) | (obtain ⟨hcc, hff, HA, hne, hne'⟩ := blater1 hb)); (try simp only [World.size_alloc, World.size_setCell] at HA)) | (go_at_call 52; refine (q2 _).mono ?_; rintro e w1 ⟨rfl, hb⟩; have hsz := hb.size; (try simp at hsz); (first | (have hbl := blater2 HA (by first | exact Nat.le_refl _ | (simp; done) | (simp; omega)) hb; obtain ⟨hcc, hff, HA, hne, hne'⟩ := hbl) | (obtain ⟨hcc, hff, HA, hne, hne'⟩ := blater1 hb)); (try simp only [World.size_alloc, World.size_setCell] at HA)))))
  all_goals (try rw [Exit.noGoto_ret])
  all_goals go_light
  all_goals (refine ⟨.tuple #[.slice none 0 0, .int .i64 (chkL true [a, b, c])], by simp [results, Try.results16, go_sem, *], allPost_err _ ?_⟩; repeat' (first | exact Below.refl _ _ | refine Below.drew ?_ | refine below_drewN ?_ _ | refine Below.alloc ?_ (by first | omega | (simp <;> omega)) _ | refine Below.setCell ?_ (by first | omega | (simp <;> omega)) _ | refine Below.trans ?_ (Below.mono (by assumption) (by first | omega | (simp <;> omega)))))

theorem mall_e3 (s : ByteArray) (p e l d a b c lits : Int) (w : World) (hl : s.size ≤ 9223372036854775807) (hw : wchk s.size p e l = 0) (hc : chkL true [a, b, c] = 0) (hg : d < 1 ∨ 64 < d ∨ lits < 0) :
    Calls Try.prog 16 #[.string s, .int .i64 p, .int .i64 e, .int .i64 l, .int .i64 d, .agg #[.int .i64 a, .int .i64 b, .int .i64 c], .int .i64 lits] w (AllPost ([], 2) w) := by
  have q1 := fun w => wcheck_p s p e l w hl
  have q2 := fun w => check_p a b c w
  rw [hw] at q1
  rw [hc] at q2
  have hg2 : d < 1 ∨ (¬ d < 1 ∧ 64 < d) ∨ (¬ d < 1 ∧ ¬ 64 < d ∧ lits < 0) := by omega
  clear hg hw hc
  rcases hg2 with g1 | ⟨g1, g2⟩ | ⟨g1, g2, g3⟩
  all_goals
    refine calls_of_marks Try.func16 rfl ?_
    simp only [Try.ntmps16, List.size_toArray, List.length_cons, List.length_nil, Nat.reduceAdd, Nat.reduceSub, Array.replicate_succ, Array.replicate_zero, List.push_toArray, List.append_toArray, List.nil_append, List.cons_append]
    go_wp2_with (first | (go_at_call 51; refine (q1 _).mono ?_; rintro e w1 ⟨rfl, hb⟩; have hsz := hb.size; (try simp at hsz); (first | (have hbl := blater2 HA (by first | exact Nat.le_refl _ | (simp; done) | (simp; omega)) hb; obtain ⟨hcc, hff, HA, hne, hne'⟩ := hbl) | (obtain ⟨hcc, hff, HA, hne, hne'⟩ := blater1 hb)); (try simp only [World.size_alloc, World.size_setCell] at HA)) | (go_at_call 52; refine (q2 _).mono ?_; rintro e w1 ⟨rfl, hb⟩; have hsz := hb.size; (try simp at hsz); (first | (have hbl := blater2 HA (by first | exact Nat.le_refl _ | (simp; done) | (simp; omega)) hb; obtain ⟨hcc, hff, HA, hne, hne'⟩ := hbl) | (obtain ⟨hcc, hff, HA, hne, hne'⟩ := blater1 hb)); (try simp only [World.size_alloc, World.size_setCell] at HA)))
    repeat' (first | (go_region <;> go_wp2_with (first | (go_at_call 51; refine (q1 _).mono ?_; rintro e w1 ⟨rfl, hb⟩; have hsz := hb.size; (try simp at hsz); (first | (have hbl := blater2 HA (by first | exact Nat.le_refl _ | (simp; done) | (simp; omega)) hb; obtain ⟨hcc, hff, HA, hne, hne'⟩ := hbl) | (obtain ⟨hcc, hff, HA, hne, hne'⟩ := blater1 hb)); (try simp only [World.size_alloc, World.size_setCell] at HA)) | (go_at_call 52; refine (q2 _).mono ?_; rintro e w1 ⟨rfl, hb⟩; have hsz := hb.size; (try simp at hsz); (first | (have hbl := blater2 HA (by first | exact Nat.le_refl _ | (simp; done) | (simp; omega)) hb; obtain ⟨hcc, hff, HA, hne, hne'⟩ := hbl) | (obtain ⟨hcc, hff, HA, hne, hne'⟩ := blater1 hb)); (try simp only [World.size_alloc, World.size_setCell] at HA)))))
    all_goals (try rw [Exit.noGoto_ret])
    all_goals go_light
    all_goals (refine ⟨.tuple #[.slice none 0 0, .int .i64 2], by simp [results, Try.results16, go_sem, *], allPost_err _ ?_⟩; repeat' (first | exact Below.refl _ _ | refine Below.drew ?_ | refine below_drewN ?_ _ | refine Below.alloc ?_ (by first | omega | (simp <;> omega)) _ | refine Below.setCell ?_ (by first | omega | (simp <;> omega)) _ | refine Below.trans ?_ (Below.mono (by assumption) (by first | omega | (simp <;> omega)))))
/-- What All returns. -/
def Rall (s : ByteArray) (p e l d a b c lits : Int) : List (Int × Int × Int × Int) × Int :=
  if wchk s.size p e l ≠ 0 then ([], wchk s.size p e l)
  else if chkL true [a, b, c] ≠ 0 then ([], chkL true [a, b, c])
  else if d < 1 ∨ 64 < d ∨ lits < 0 then ([], 2)
  else (mofs s p.toNat e.toNat a b c lits (cands s p.toNat e.toNat l.toNat d.toNat), 0)
theorem mall_p (s : ByteArray) (p e l d a b c lits : Int) (w : World) (hl : s.size ≤ 9223372036854775807) :
    Calls Try.prog 16 #[.string s, .int .i64 p, .int .i64 e, .int .i64 l, .int .i64 d, .agg #[.int .i64 a, .int .i64 b, .int .i64 c], .int .i64 lits] w (AllPost (Rall s p e l d a b c lits) w) := by
  unfold Rall
  by_cases hw : wchk s.size p e l = 0
  · rw [if_neg (by simpa using hw)]
    by_cases hc : chkL true [a, b, c] = 0
    · rw [if_neg (by simpa using hc)]
      by_cases hg : d < 1 ∨ 64 < d ∨ lits < 0
      · rw [if_pos hg]
        exact mall_e3 s p e l d a b c lits w hl hw hc hg
      · rw [if_neg hg]
        obtain ⟨h1, h2, h3, h4, h5, h6⟩ := wchk_ok hw
        obtain ⟨p, rfl⟩ : ∃ n : Nat, p = (n : Int) := ⟨p.toNat, by omega⟩
        obtain ⟨e, rfl⟩ : ∃ n : Nat, e = (n : Int) := ⟨e.toNat, by omega⟩
        obtain ⟨l, rfl⟩ : ∃ n : Nat, l = (n : Int) := ⟨l.toNat, by omega⟩
        obtain ⟨d, rfl⟩ : ∃ n : Nat, d = (n : Int) := ⟨d.toNat, by omega⟩
        simp only [Int.toNat_natCast]
        have e5 : (candAll s p e l).take d = cands s p e l d := by
          unfold cands candAll
          split <;> simp
        exact mall_1 s p e l d a b c lits w h1 (by omega) (by omega) (by omega) (by omega) (by omega) (by omega) (by omega) hw hc _ e5
    · rw [if_pos hc]
      exact mall_e2 s p e l d a b c lits w hl hw (by simpa using hc)
  · rw [if_pos hw]
    exact mall_e1 s p e l d a b c lits w hl (by simpa using hw)
end Go.Proofs.Ytammacofhdbgcaa
namespace Go.Proofs.Ytammacofhdbgcaa
open Go.RowKit
set_option linter.unusedSimpArgs false
set_option linter.unusedVariables false
open Go.Shelf
attribute [local go_sem] Oper.semAt_some

set_option maxRecDepth 100000 in
set_option maxHeartbeats 4000000 in
theorem rall_1 (s : ByteArray) (p e l d : Nat) (a b c lits : Int) (w : World) (hs : s.size ≤ 1048576) (hpe : p ≤ e) (hes : e ≤ s.size) (hl1 : 10 ≤ l) (hl2 : l ≤ 27) (hd1 : 1 ≤ d) (hd2 : d ≤ 64) (hli : 0 ≤ lits) (hw : wchk s.size p e l = 0) (hc : chkL true [a, b, c] = 0) (C : List Nat) (HC : Hid (cands s p e l d = C)) (hCl : C.length ≤ 64) (HCM : Hid (∀ q ∈ C, q < p)) :
    Calls Try.prog 17 #[.string s, .int .i64 (p : Int), .int .i64 (e : Int), .int .i64 (l : Int), .int .i64 (d : Int), .agg #[.int .i64 a, .int .i64 b, .int .i64 c], .int .i64 lits] w (AllPost (mofs s p e a b c lits C, 0) w) := by
  have q1 := fun w => rwcheck_p s p e l w (by omega)
  have q2 := fun w => check_r a b c w
  have q3 := fun w => rcand_p s p e l d w (by omega)
  have hR : wcandR s p e l d = (C, 0) := by
    unfold wcandR
    rw [hw, if_pos rfl, if_pos ⟨by omega, by omega⟩]
    simp only [Int.toNat_natCast]
    rw [HC.out]
  rw [hw] at q1
  rw [hc] at q2
  rw [hR] at q3
  have g1 : ¬ (d : Int) < 1 := by omega
  have g2 : ¬ (64 : Int) < (d : Int) := by omega
  have g3 : ¬ lits < 0 := by omega
  have HCH := Lib.hid hc
  clear hw hc hR
  go_enter Try.func17, Try.ntmps17
  go_wp2_with (first | (go_at_call 55; refine (q1 _).mono ?_; rintro e w1 ⟨rfl, hb⟩; have hsz := hb.size; (try simp at hsz); (first | (have hbl := blater2 HA (by first | exact Nat.le_refl _ | (simp; done) | (simp; omega)) hb; obtain ⟨hcc, hff, HA, hne, hne'⟩ := hbl) | (obtain ⟨hcc, hff, HA, hne, hne'⟩ := blater1 hb)); (try simp only [World.size_alloc, World.size_setCell] at HA)) | (go_at_call 56; refine (q2 _).mono ?_; rintro e w1 ⟨rfl, hb⟩; have hsz := hb.size; (try simp at hsz); (first | (have hbl := blater2 HA (by first | exact Nat.le_refl _ | (simp; done) | (simp; omega)) hb; obtain ⟨hcc, hff, HA, hne, hne'⟩ := hbl) | (obtain ⟨hcc, hff, HA, hne, hne'⟩ := blater1 hb)); (try simp only [World.size_alloc, World.size_setCell] at HA)) | (go_at_call 57; refine (q3 _).mono ?_; rintro e w1 ⟨pa, ca, hca, rfl, hrA, hb⟩; have hsz := hb.size; (try simp at hsz); (first | (have hbl := blater2 HA (by first | exact Nat.le_refl _ | (simp; done) | (simp; omega)) hb; obtain ⟨hcc, hff, HA, hne, hne'⟩ := hbl) | (obtain ⟨hcc, hff, HA, hne, hne'⟩ := blater1 hb)); (try simp only [World.size_alloc, World.size_setCell] at HA)))
  repeat (first | (go_region <;> go_wp2_with (first | (go_at_call 55; refine (q1 _).mono ?_; rintro e w1 ⟨rfl, hb⟩; have hsz := hb.size; (try simp at hsz); (first | (have hbl := blater2 HA (by first | exact Nat.le_refl _ | (simp; done) | (simp; omega)) hb; obtain ⟨hcc, hff, HA, hne, hne'⟩ := hbl) | (obtain ⟨hcc, hff, HA, hne, hne'⟩ := blater1 hb)); (try simp only [World.size_alloc, World.size_setCell] at HA)) | (go_at_call 56; refine (q2 _).mono ?_; rintro e w1 ⟨rfl, hb⟩; have hsz := hb.size; (try simp at hsz); (first | (have hbl := blater2 HA (by first | exact Nat.le_refl _ | (simp; done) | (simp; omega)) hb; obtain ⟨hcc, hff, HA, hne, hne'⟩ := hbl) | (obtain ⟨hcc, hff, HA, hne, hne'⟩ := blater1 hb)); (try simp only [World.size_alloc, World.size_setCell] at HA)) | (go_at_call 57; refine (q3 _).mono ?_; rintro e w1 ⟨pa, ca, hca, rfl, hrA, hb⟩; have hsz := hb.size; (try simp at hsz); (first | (have hbl := blater2 HA (by first | exact Nat.le_refl _ | (simp; done) | (simp; omega)) hb; obtain ⟨hcc, hff, HA, hne, hne'⟩ := hbl) | (obtain ⟨hcc, hff, HA, hne, hne'⟩ := blater1 hb)); (try simp only [World.size_alloc, World.size_setCell] at HA)))))
  have r1 : w1.cell? ⟨w.heap.size, 0, none⟩ = some (.int .i64 a) := by simp [go_sem, *]
  have r2 : w1.cell? ⟨w.heap.size, 1, none⟩ = some (.int .i64 b) := by simp [go_sem, *]
  have r3 : w1.cell? ⟨w.heap.size, 2, none⟩ = some (.int .i64 c) := by simp [go_sem, *]
  have hw1 : w.heap.size + 1 ≤ w1.heap.size := by omega
  have B0 : Below w.heap.size w w1 := by
    repeat' (first | exact Below.refl _ _ | refine Below.drew ?_ | refine below_drewN ?_ _ | refine Below.alloc ?_ (by first | omega | (simp <;> omega)) _ | refine Below.setCell ?_ (by first | omega | (simp <;> omega)) _ | refine Below.trans ?_ (Below.mono (by assumption) (by first | omega | (simp <;> omega))))
  clear hcc hff HA hne hne' hsz hb g1 g2 g3 q1 q2 q3
  obtain ⟨i4, hi4, hz0, hz1, hz2⟩ := info_parts infoMatch
  go_loopw [19, 20] (fun v i wr => ∃ (k : Nat) (ad : Option Addr) (cap : Nat), k ≤ C.length ∧ i = .int .i64 (k : Int) ∧ v = .slice ad k cap ∧ wr.ownsRow w1.heap.size 32 4 (.slice ad k cap) k (flatM (mofs s p e a b c lits (C.take k))) ∧ Below w1.heap.size w1 wr) (fun _ i _ => C.length - (intOf i).toNat)
  case atStart => exact ⟨0, none, 0, by omega, rfl, rfl, World.ownsRow_nil _ _ _ _, Below.refl _ _⟩
  case round =>
    obtain ⟨k, ad, cap, hk, rfl, rfl, ho, hb⟩ := hrel
    have hbs := hb.size
    by_cases hlt : k < C.length
    · obtain ⟨pb, po, rfl, hb1, hc1⟩ := hrA.at (i := k) (by rw [nats_len]; exact hlt)
      have c0 := hc1 k (by rw [nats_len]; exact hlt)
      obtain ⟨q, hq⟩ : ∃ q, C.getD k 0 = q := ⟨_, rfl⟩
      have hn : (nats C).getD k 0 = (q : Int) := by rw [← hq]; simp [nats, List.getD_eq_getElem?_getD, hlt]
      rw [hn] at c0
      have hqp : q < p := HCM.out q (by rw [← hq]; simp [List.getD_eq_getElem?_getD, hlt])
      have c1 := (hb.cell (p := ⟨pb, po + k, none⟩) hb1).trans c0
      have x1 := (hb.cell (p := ⟨w.heap.size, 0, none⟩) (by show w.heap.size < _; omega)).trans r1
      have x2 := (hb.cell (p := ⟨w.heap.size, 1, none⟩) (by show w.heap.size < _; omega)).trans r2
      have x3 := (hb.cell (p := ⟨w.heap.size, 2, none⟩) (by show w.heap.size < _; omega)).trans r3
      have hcm : wcom s (q : Int) (p : Int) (e : Int) = (((cmn s (e - p) q p : Nat) : Int), 0) := by
        unfold wcom
        rw [if_neg (by omega), if_pos ⟨by omega, by omega, by omega, by omega⟩]
        rw [show ((e : Int) - (p : Int)).toNat = e - p by omega, Int.toNat_natCast, Int.toNat_natCast]
      have qC := fun w => rcommon_p s (q : Int) (p : Int) (e : Int) w (by omega)
      rw [hcm] at qC
      have qV := fun w => value_r a b c ((p : Int) - (q : Int)) lits w
      obtain ⟨n, hn9⟩ : ∃ n, cmn s (e - p) q p = n := ⟨_, rfl⟩
      rw [hn9] at qC
      have hn10 : n ≤ e - p := by rw [← hn9]; exact cmn_le _ _ _ _
      obtain ⟨v, hv1, hv2, hv3, _⟩ := rval_ok (a := a) (b := b) (c := c) (d := (p : Int) - (q : Int)) (l := lits) HCH.out (by omega) (by omega) hli
      rw [hv1] at qV
      have hmo : mof s p e a b c lits q = ((p : Int) - (q : Int), (n : Int), v, mgain (n : Int) v) := by unfold mof; rw [hn9, hv1]
      have qG := fun w => rgain_s (n : Int) v w (by omega) (by omega) (by omega) (by omega)
      generalize mgain (n : Int) v = g at qG hmo
      have htk : flatM (mofs s p e a b c lits (C.take (k + 1))) = flatM (mofs s p e a b c lits (C.take k)) ++ [.int .i64 ((p : Int) - (q : Int)), .int .i64 (n : Int), .int .i64 v, .int .i64 g] := by
        have h1 : C.take (k + 1) = C.take k ++ [q] := by
          rw [List.take_succ_eq_append_getElem hlt, ← hq]
          simp [List.getD_eq_getElem?_getD, hlt]
        rw [h1]
        unfold mofs
        rw [List.map_append, flatM_append]
        simp only [List.map_cons, List.map_nil, hmo]
        rfl
      dsimp only at qC qV
      have HTK := Lib.hid htk
      have HO := Lib.hid ho
      have i0 : (0 : Int) ≤ (k : Int) := by omega
      have i1 : (k : Int) < (C.length : Int) := by omega
      have hwr : IntKind.i64.wrap ((p : Int) - (q : Int)) = (p : Int) - (q : Int) := IntWalk.i64_in _ (by omega)
      have hpb : pb < wr.heap.size := by omega
      have hpw : w.heap.size < wr.heap.size := by omega
      clear hc1 c0 hn hq hcm hn9 hv1 hmo htk ho
      go_wp2_with (go_at_call 58; refine (qC _).mono ?_; rintro e' wA ⟨rfl, hbA⟩; replace c1 := (hbA.cell (p := ⟨pb, po + k, none⟩) hpb).trans c1; replace x1 := (hbA.cell (p := ⟨w.heap.size, 0, none⟩) hpw).trans x1; replace x2 := (hbA.cell (p := ⟨w.heap.size, 1, none⟩) hpw).trans x2; replace x3 := (hbA.cell (p := ⟨w.heap.size, 2, none⟩) hpw).trans x3; have hsA := hbA.size; have hpbA : pb < wA.heap.size := by omega)
      have hpwA : w.heap.size < wA.heap.size := by omega
      refine wp_region_later1 (by kernel_rfl) (by kernel_rfl) ?_
      intro hLC
      repeat (go_big_quiet_step ((go_at_call 59; exact Calls.later_of (qV _))))
      refine wpQuiet_nil ?_
      intro wB hbB
      clear hLC
      have hsB := hbB.size
      have c2 := (hbB.cell (p := ⟨pb, po + k, none⟩) hpbA).trans c1
      clear x1 x2 x3 c1
      have hOB := ownsRow_later (ownsRow_later HO.out hbA) hbB
      have HOB := Lib.hid hOB
      clear hOB
      have CN : ∀ (j : Nat) (u : Value), [Value.int .i64 ((p : Int) - (q : Int)), .int .i64 (n : Int), .int .i64 v, .int .i64 g][j]? = some u → (wB.alloc (.cells #[.int .i64 ((p : Int) - (q : Int)), .int .i64 (n : Int), .int .i64 v, .int .i64 g] 32)).drew.cell? ((⟨wB.heap.size, 0, none⟩ : Addr).add j) = some u := by
        intro j u hj
        match j, hj with
        | 0, hj => simp at hj; subst hj; simp [Addr.add, go_sem]
        | 1, hj => simp at hj; subst hj; simp [Addr.add, go_sem]
        | 2, hj => simp at hj; subst hj; simp [Addr.add, go_sem]
        | 3, hj => simp at hj; subst hj; simp [Addr.add, go_sem]
      have C1 : ∀ u ∈ [Value.int .i64 ((p : Int) - (q : Int)), .int .i64 (n : Int), .int .i64 v, .int .i64 g], u.oneCell' = true := by
        intro u hu
        simp at hu
        rcases hu with rfl | rfl | rfl | rfl <;> rfl
      have HCN := Lib.hid CN
      have HC1 := Lib.hid C1
      have hpbB : pb < wB.heap.size := by omega
      have hnb : (Value.slice ad k cap).ownBlock ≠ some pb := fun h => by have := own_base4 HO.out _ h; omega
      have HNE := Lib.hid hnb
      have c3 : (wB.alloc (.cells #[.int .i64 ((p : Int) - (q : Int)), .int .i64 (n : Int), .int .i64 v, .int .i64 g] 32)).drew.cell? ⟨pb, po + k, none⟩ = some (.int .i64 (q : Int)) := (((Below.refl _ wB).alloc (Nat.le_refl _) _).drew.cell (p := ⟨pb, po + k, none⟩) hpbB).trans c2
      clear hnb
      clear CN C1
      go_wp2
      go_region_held3 (fun w' => w'.cell? ⟨pb, po + k, none⟩ = some (.int .i64 (q : Int))) (first | go_keep | (refine hgrow.cell ?_ (Ne.symm HNE.out); first | assumption | (simp [go_sem]; omega) | go_keep))
        (first | (go_at_call 60; refine (qG _).mono ?_; rintro e' w' ⟨rfl, rfl⟩) | (refine step_append_lies _ (by rfl) _ _ 27 (by rfl) w1.heap.size 32 i4 (.agg #[.int .i64 0, .int .i64 0, .int .i64 0, .int .i64 0]) 4 32 Try.underlying27 hi4 hz0 hz1 hz2 (by rfl) (by decide) _ k _ (by rfl) ((HOB.out.alloc _).drew) ⟨wB.heap.size, 0, none⟩ 1 1 [.int .i64 ((p : Int) - (q : Int)), .int .i64 (n : Int), .int .i64 v, .int .i64 g] (by rfl) (by rfl) HCN.out HC1.out (by decide) (by unfold maxLen; omega) (by omega) (by simp; omega) _ rfl ?_; intro gb capb wC hown1 hgrow hat hlt2))
      clear hwr
      go_wp2
      go_roundw
      case rel =>
        refine ⟨k + 1, some ⟨gb, 0, none⟩, capb, by omega, by go_num, rfl, ?_, ?_⟩
        · rw [HTK.out]
          exact hown1
        · refine (((hb.trans (hbA.mono hbs)).trans (hbB.mono (by omega))).alloc (by omega) _).drew.grown hgrow (by simp; omega) (own_base4 HO.out)
      case measure => go_light; simp [intOf] <;> omega
    · have hkk : k = C.length := by omega
      subst hkk
      have HO := Lib.hid ho
      clear ho
      go_wp2
      go_light
      have hln : (mofs s p e a b c lits C).length = C.length := mofs_len _ _ _ _ _ _ _ _
      refine bodyPost_ret (results_tmp2 rfl _ _ _) rfl ⟨ad, cap, ?_, ?_, ?_, ?_, ?_⟩
      · rw [hln]; exact own_cap4 HO.out
      · rw [hln]; rfl
      · rw [hln]; intro g hg
        have := own_base4 HO.out g hg
        omega
      · have hrow := RowM.of_own HO.out (by rw [mofs_len, List.length_take]; omega)
        rw [List.take_of_length_le (Nat.le_refl _)] at hrow
        exact hrow
      · exact B0.trans (hb.mono (by omega))

set_option maxHeartbeats 1000000 in
theorem rall_e1 (s : ByteArray) (p e l d a b c lits : Int) (w : World) (hl : s.size ≤ 9223372036854775807) (hw : wchk s.size p e l ≠ 0) :
    Calls Try.prog 17 #[.string s, .int .i64 p, .int .i64 e, .int .i64 l, .int .i64 d, .agg #[.int .i64 a, .int .i64 b, .int .i64 c], .int .i64 lits] w (AllPost ([], wchk s.size p e l) w) := by
  have q1 := fun w => rwcheck_p s p e l w hl
  have q2 := fun w => check_r a b c w
  have k1 : (wchk s.size p e l == 0) = false := by simpa using hw
  have k2 : (wchk s.size p e l != 0) = true := by simpa using hw
  clear hw
  go_enter Try.func17, Try.ntmps17
  go_wp2_with (first | (go_at_call 55; refine (q1 _).mono ?_; rintro e w1 ⟨rfl, hb⟩; have hsz := hb.size; (try simp at hsz); (first | (have hbl := blater2 HA (by first | exact Nat.le_refl _ | (simp; done) | (simp; omega)) hb; obtain ⟨hcc, hff, HA, hne, hne'⟩ := hbl) | (obtain ⟨hcc, hff, HA, hne, hne'⟩ := blater1 hb)); (try simp only [World.size_alloc, World.size_setCell] at HA)))
  repeat' (first | (go_region <;> go_wp2_with (first | (go_at_call 55; refine (q1 _).mono ?_; rintro e w1 ⟨rfl, hb⟩; have hsz := hb.size; (try simp at hsz); (first | (have hbl := blater2 HA (by first | exact Nat.le_refl _ | (simp; done) | (simp; omega)) hb; obtain ⟨hcc, hff, HA, hne, hne'⟩ := hbl) | (obtain ⟨hcc, hff, HA, hne, hne'⟩ := blater1 hb)); (try simp only [World.size_alloc, World.size_setCell] at HA)))))
  all_goals (try rw [Exit.noGoto_ret])
  all_goals go_light
  all_goals (refine bodyPost_ret (v := .tuple #[.slice none 0 0, .int .i64 (wchk s.size p e l)]) (by simp [results, Try.results17, go_sem, *]) rfl (allPost_err _ ?_); repeat' (first | exact Below.refl _ _ | refine Below.drew ?_ | refine below_drewN ?_ _ | refine Below.alloc ?_ (by first | omega | (simp <;> omega)) _ | refine Below.setCell ?_ (by first | omega | (simp <;> omega)) _ | refine Below.trans ?_ (Below.mono (by assumption) (by first | omega | (simp <;> omega)))))

set_option maxHeartbeats 1000000 in
theorem rall_e2 (s : ByteArray) (p e l d a b c lits : Int) (w : World) (hl : s.size ≤ 9223372036854775807) (hw : wchk s.size p e l = 0) (hc : chkL true [a, b, c] ≠ 0) :
    Calls Try.prog 17 #[.string s, .int .i64 p, .int .i64 e, .int .i64 l, .int .i64 d, .agg #[.int .i64 a, .int .i64 b, .int .i64 c], .int .i64 lits] w (AllPost ([], chkL true [a, b, c]) w) := by
  have q1 := fun w => rwcheck_p s p e l w hl
  have q2 := fun w => check_r a b c w
  rw [hw] at q1
  have k1 : (chkL true [a, b, c] == 0) = false := by simpa using hc
  have k2 : (chkL true [a, b, c] != 0) = true := by simpa using hc
  clear hw hc
  go_enter Try.func17, Try.ntmps17
  go_wp2_with (first | (go_at_call 55; refine (q1 _).mono ?_; rintro e w1 ⟨rfl, hb⟩; have hsz := hb.size; (try simp at hsz); (first | (have hbl := blater2 HA (by first | exact Nat.le_refl _ | (simp; done) | (simp; omega)) hb; obtain ⟨hcc, hff, HA, hne, hne'⟩ := hbl) | (obtain ⟨hcc, hff, HA, hne, hne'⟩ := blater1 hb)); (try simp only [World.size_alloc, World.size_setCell] at HA)) | (go_at_call 56; refine (q2 _).mono ?_; rintro e w1 ⟨rfl, hb⟩; have hsz := hb.size; (try simp at hsz); (first | (have hbl := blater2 HA (by first | exact Nat.le_refl _ | (simp; done) | (simp; omega)) hb; obtain ⟨hcc, hff, HA, hne, hne'⟩ := hbl) | (obtain ⟨hcc, hff, HA, hne, hne'⟩ := blater1 hb)); (try simp only [World.size_alloc, World.size_setCell] at HA)))
  repeat' (first | (go_region <;> go_wp2_with (first | (go_at_call 55; refine (q1 _).mono ?_; rintro e w1 ⟨rfl, hb⟩; have hsz := hb.size; (try simp at hsz); (first | (have hbl := blater2 HA (by first | exact Nat.le_refl _ | (simp; done) | (simp; omega)) hb; obtain ⟨hcc, hff, HA, hne, hne'⟩ := hbl) | (obtain ⟨hcc, hff, HA, hne, hne'⟩ := blater1 hb)); (try simp only [World.size_alloc, World.size_setCell] at HA)) | (go_at_call 56; refine (q2 _).mono ?_; rintro e w1 ⟨rfl, hb⟩; have hsz := hb.size; (try simp at hsz); (first | (have hbl := blater2 HA (by first | exact Nat.le_refl _ | (simp; done) | (simp; omega)) hb; obtain ⟨hcc, hff, HA, hne, hne'⟩ := hbl) | (obtain ⟨hcc, hff, HA, hne, hne'⟩ := blater1 hb)); (try simp only [World.size_alloc, World.size_setCell] at HA)))))
  all_goals (try rw [Exit.noGoto_ret])
  all_goals go_light
  all_goals (refine bodyPost_ret (v := .tuple #[.slice none 0 0, .int .i64 (chkL true [a, b, c])]) (by simp [results, Try.results17, go_sem, *]) rfl (allPost_err _ ?_); repeat' (first | exact Below.refl _ _ | refine Below.drew ?_ | refine below_drewN ?_ _ | refine Below.alloc ?_ (by first | omega | (simp <;> omega)) _ | refine Below.setCell ?_ (by first | omega | (simp <;> omega)) _ | refine Below.trans ?_ (Below.mono (by assumption) (by first | omega | (simp <;> omega)))))

theorem rall_e3 (s : ByteArray) (p e l d a b c lits : Int) (w : World) (hl : s.size ≤ 9223372036854775807) (hw : wchk s.size p e l = 0) (hc : chkL true [a, b, c] = 0) (hg : d < 1 ∨ 64 < d ∨ lits < 0) :
    Calls Try.prog 17 #[.string s, .int .i64 p, .int .i64 e, .int .i64 l, .int .i64 d, .agg #[.int .i64 a, .int .i64 b, .int .i64 c], .int .i64 lits] w (AllPost ([], 2) w) := by
  have q1 := fun w => rwcheck_p s p e l w hl
  have q2 := fun w => check_r a b c w
  rw [hw] at q1
  rw [hc] at q2
  have hg2 : d < 1 ∨ (¬ d < 1 ∧ 64 < d) ∨ (¬ d < 1 ∧ ¬ 64 < d ∧ lits < 0) := by omega
  clear hg hw hc
  rcases hg2 with g1 | ⟨g1, g2⟩ | ⟨g1, g2, g3⟩
  all_goals
    go_enter Try.func17, Try.ntmps17
    go_wp2_with (first | (go_at_call 55; refine (q1 _).mono ?_; rintro e w1 ⟨rfl, hb⟩; have hsz := hb.size; (try simp at hsz); (first | (have hbl := blater2 HA (by first | exact Nat.le_refl _ | (simp; done) | (simp; omega)) hb; obtain ⟨hcc, hff, HA, hne, hne'⟩ := hbl) | (obtain ⟨hcc, hff, HA, hne, hne'⟩ := blater1 hb)); (try simp only [World.size_alloc, World.size_setCell] at HA)) | (go_at_call 56; refine (q2 _).mono ?_; rintro e w1 ⟨rfl, hb⟩; have hsz := hb.size; (try simp at hsz); (first | (have hbl := blater2 HA (by first | exact Nat.le_refl _ | (simp; done) | (simp; omega)) hb; obtain ⟨hcc, hff, HA, hne, hne'⟩ := hbl) | (obtain ⟨hcc, hff, HA, hne, hne'⟩ := blater1 hb)); (try simp only [World.size_alloc, World.size_setCell] at HA)))
    repeat' (first | (go_region <;> go_wp2_with (first | (go_at_call 55; refine (q1 _).mono ?_; rintro e w1 ⟨rfl, hb⟩; have hsz := hb.size; (try simp at hsz); (first | (have hbl := blater2 HA (by first | exact Nat.le_refl _ | (simp; done) | (simp; omega)) hb; obtain ⟨hcc, hff, HA, hne, hne'⟩ := hbl) | (obtain ⟨hcc, hff, HA, hne, hne'⟩ := blater1 hb)); (try simp only [World.size_alloc, World.size_setCell] at HA)) | (go_at_call 56; refine (q2 _).mono ?_; rintro e w1 ⟨rfl, hb⟩; have hsz := hb.size; (try simp at hsz); (first | (have hbl := blater2 HA (by first | exact Nat.le_refl _ | (simp; done) | (simp; omega)) hb; obtain ⟨hcc, hff, HA, hne, hne'⟩ := hbl) | (obtain ⟨hcc, hff, HA, hne, hne'⟩ := blater1 hb)); (try simp only [World.size_alloc, World.size_setCell] at HA)))))
    all_goals (try rw [Exit.noGoto_ret])
    all_goals go_light
    all_goals (refine bodyPost_ret (v := .tuple #[.slice none 0 0, .int .i64 2]) (by simp [results, Try.results17, go_sem, *]) rfl (allPost_err _ ?_); repeat' (first | exact Below.refl _ _ | refine Below.drew ?_ | refine below_drewN ?_ _ | refine Below.alloc ?_ (by first | omega | (simp <;> omega)) _ | refine Below.setCell ?_ (by first | omega | (simp <;> omega)) _ | refine Below.trans ?_ (Below.mono (by assumption) (by first | omega | (simp <;> omega)))))
theorem rall_p (s : ByteArray) (p e l d a b c lits : Int) (w : World) (hl : s.size ≤ 9223372036854775807) :
    Calls Try.prog 17 #[.string s, .int .i64 p, .int .i64 e, .int .i64 l, .int .i64 d, .agg #[.int .i64 a, .int .i64 b, .int .i64 c], .int .i64 lits] w (AllPost (Rall s p e l d a b c lits) w) := by
  unfold Rall
  by_cases hw : wchk s.size p e l = 0
  · rw [if_neg (by simpa using hw)]
    by_cases hc : chkL true [a, b, c] = 0
    · rw [if_neg (by simpa using hc)]
      by_cases hg : d < 1 ∨ 64 < d ∨ lits < 0
      · rw [if_pos hg]
        exact rall_e3 s p e l d a b c lits w hl hw hc hg
      · rw [if_neg hg]
        obtain ⟨h1, h2, h3, h4, h5, h6⟩ := wchk_ok hw
        obtain ⟨p, rfl⟩ : ∃ n : Nat, p = (n : Int) := ⟨p.toNat, by omega⟩
        obtain ⟨e, rfl⟩ : ∃ n : Nat, e = (n : Int) := ⟨e.toNat, by omega⟩
        obtain ⟨l, rfl⟩ : ∃ n : Nat, l = (n : Int) := ⟨l.toNat, by omega⟩
        obtain ⟨d, rfl⟩ : ∃ n : Nat, d = (n : Int) := ⟨d.toNat, by omega⟩
        simp only [Int.toNat_natCast]
        have e5 : (candAll s p e l).take d = cands s p e l d := by
          unfold cands candAll
          split <;> simp
        exact rall_1 s p e l d a b c lits w h1 (by omega) (by omega) (by omega) (by omega) (by omega) (by omega) (by omega) hw hc _ rfl (by rw [← e5]; simp; omega) (Lib.hid (fun q hq => by rw [← e5] at hq; exact candAll_lt s p e l q (List.mem_of_mem_take hq)))
    · rw [if_pos hc]
      exact rall_e2 s p e l d a b c lits w hl hw hc
  · rw [if_pos hw]
    exact rall_e1 s p e l d a b c lits w hl hw
end Go.Proofs.Ytammacofhdbgcaa
namespace Go.Proofs.Ytammacofhdbgcaa
open Go.RowKit
set_option linter.unusedSimpArgs false
set_option linter.unusedVariables false
open Go.Shelf
attribute [local go_sem] Oper.semAt_some

/-- What At returns. -/
def Rat (s : ByteArray) (p e l d a b c lits : Int) : (Int × Int × Int × Int) × Bool × Int :=
  if (Rall s p e l d a b c lits).2 = 0 then (mbZ (Rall s p e l d a b c lits).1 (Rall s p e l d a b c lits).1.length, decide (0 < (Rall s p e l d a b c lits).1.length), 0)
  else ((0, 0, 0, 0), false, (Rall s p e l d a b c lits).2)
theorem rall_len (s : ByteArray) (p e l d a b c lits : Int) : (Rall s p e l d a b c lits).1.length ≤ 64 := by
  unfold Rall
  repeat' split
  all_goals simp [mofs_len]
  rename_i h
  unfold cands
  split
  · simp
  · simp
    omega

set_option maxHeartbeats 2000000 in
theorem mat_p (s : ByteArray) (p e l d a b c lits : Int) (w : World) (hl : s.size ≤ 9223372036854775807) :
    Calls Try.prog 18 #[.string s, .int .i64 p, .int .i64 e, .int .i64 l, .int .i64 d, .agg #[.int .i64 a, .int .i64 b, .int .i64 c], .int .i64 lits] w fun en w' => en = .returned (.tuple #[.agg #[.int .i64 (Rat s p e l d a b c lits).1.1, .int .i64 (Rat s p e l d a b c lits).1.2.1, .int .i64 (Rat s p e l d a b c lits).1.2.2.1, .int .i64 (Rat s p e l d a b c lits).1.2.2.2], .bool (Rat s p e l d a b c lits).2.1, .int .i64 (Rat s p e l d a b c lits).2.2]) ∧ Below w.heap.size w w' := by
  have q1 := fun w => mall_p s p e l d a b c lits w hl
  have hn := rall_len s p e l d a b c lits
  unfold Rat
  generalize Rall s p e l d a b c lits = R at q1 hn
  obtain ⟨ms, er⟩ := R
  dsimp only at q1 hn ⊢
  by_cases he : er = 0
  · rw [if_pos he]
    subst he
    have q2 := fun pa ca w h => best_p pa ms ca w h (by omega)
    obtain ⟨fb, hfb⟩ : ∃ x, decide (0 < ms.length) = x := ⟨_, rfl⟩
    generalize mbZ ms ms.length = m at q2 ⊢
    rw [hfb] at q2 ⊢
    clear hfb
    obtain ⟨fd, fl, fv, fg⟩ := m
    dsimp only at q2 ⊢
    go_enter Try.func18, Try.ntmps18
    go_wp2_with (first | (go_at_call 16; refine (q1 _).mono ?_; rintro e w1 ⟨pa, ca, hca, rfl, hob, hrA, hb⟩; have hb0 := hb; have hsz := hb.size; (try simp at hsz); (first | (have hbl := blater2 HA (by first | exact Nat.le_refl _ | (simp; done) | (simp; omega)) hb; obtain ⟨hcc, hff, HA, hne, hne'⟩ := hbl) | (obtain ⟨hcc, hff, HA, hne, hne'⟩ := blater1 hb)); (try simp only [World.size_alloc, World.size_setCell] at HA)) | (go_at_call 25; refine (q2 pa ca _ (hrA.later (by repeat' (first | exact Below.refl _ _ | refine Below.drew ?_ | refine below_drewN ?_ _ | refine Below.alloc ?_ (by first | omega | (simp <;> omega)) _ | refine Below.setCell ?_ (by first | omega | (simp <;> omega)) _ | refine Below.trans ?_ (Below.mono (by assumption) (by first | omega | (simp <;> omega))))))).mono ?_; rintro e w1 ⟨rfl, hb⟩; have hsz := hb.size; (try simp at hsz); (first | (have hbl := blater2 HA (by first | exact Nat.le_refl _ | (simp; done) | (simp; omega)) hb; obtain ⟨hcc, hff, HA, hne, hne'⟩ := hbl) | (obtain ⟨hcc, hff, HA, hne, hne'⟩ := blater1 hb)); (try simp only [World.size_alloc, World.size_setCell] at HA); have hB := (((Blk.new (w.alloc (.cells #[.int .i64 a, .int .i64 b, .int .i64 c] 23)) 32 #[.int .i64 0, .int .i64 0, .int .i64 0, .int .i64 0]).below hb0 (by simp)).below hb (by simp; omega)); (try simp only [World.size_alloc] at hB); have bW : Below w.heap.size w w1 := (by repeat' (first | exact Below.refl _ _ | refine Below.drew ?_ | refine below_drewN ?_ _ | refine Below.alloc ?_ (by first | omega | (simp <;> omega)) _ | refine Below.setCell ?_ (by first | omega | (simp <;> omega)) _ | refine Below.trans ?_ (Below.mono (by assumption) (by first | omega | (simp <;> omega)))))))
    repeat' (first | (go_region <;> go_wp2_with (first | (go_at_call 16; refine (q1 _).mono ?_; rintro e w1 ⟨pa, ca, hca, rfl, hob, hrA, hb⟩; have hb0 := hb; have hsz := hb.size; (try simp at hsz); (first | (have hbl := blater2 HA (by first | exact Nat.le_refl _ | (simp; done) | (simp; omega)) hb; obtain ⟨hcc, hff, HA, hne, hne'⟩ := hbl) | (obtain ⟨hcc, hff, HA, hne, hne'⟩ := blater1 hb)); (try simp only [World.size_alloc, World.size_setCell] at HA)) | (go_at_call 25; refine (q2 pa ca _ (hrA.later (by repeat' (first | exact Below.refl _ _ | refine Below.drew ?_ | refine below_drewN ?_ _ | refine Below.alloc ?_ (by first | omega | (simp <;> omega)) _ | refine Below.setCell ?_ (by first | omega | (simp <;> omega)) _ | refine Below.trans ?_ (Below.mono (by assumption) (by first | omega | (simp <;> omega))))))).mono ?_; rintro e w1 ⟨rfl, hb⟩; have hsz := hb.size; (try simp at hsz); (first | (have hbl := blater2 HA (by first | exact Nat.le_refl _ | (simp; done) | (simp; omega)) hb; obtain ⟨hcc, hff, HA, hne, hne'⟩ := hbl) | (obtain ⟨hcc, hff, HA, hne, hne'⟩ := blater1 hb)); (try simp only [World.size_alloc, World.size_setCell] at HA); have hB := (((Blk.new (w.alloc (.cells #[.int .i64 a, .int .i64 b, .int .i64 c] 23)) 32 #[.int .i64 0, .int .i64 0, .int .i64 0, .int .i64 0]).below hb0 (by simp)).below hb (by simp; omega)); (try simp only [World.size_alloc] at hB); have bW : Below w.heap.size w w1 := (by repeat' (first | exact Below.refl _ _ | refine Below.drew ?_ | refine below_drewN ?_ _ | refine Below.alloc ?_ (by first | omega | (simp <;> omega)) _ | refine Below.setCell ?_ (by first | omega | (simp <;> omega)) _ | refine Below.trans ?_ (Below.mono (by assumption) (by first | omega | (simp <;> omega)))))))))
    have hBV := ((((((((hB.set 0 (.int .i64 fd)).set 1 (.int .i64 fl)).set 2 (.int .i64 fv)).set 3 (.int .i64 fg)).set 0 (.int .i64 fd)).set 1 (.int .i64 fl)).set 2 (.int .i64 fv)).set 3 (.int .i64 fg))
    have bV := ((((((((bW.setCell (p := ⟨w.heap.size + 1, 0, none⟩) (by simp) (.int .i64 fd)).setCell (p := ⟨w.heap.size + 1, 1, none⟩) (by simp) (.int .i64 fl)).setCell (p := ⟨w.heap.size + 1, 2, none⟩) (by simp) (.int .i64 fv)).setCell (p := ⟨w.heap.size + 1, 3, none⟩) (by simp) (.int .i64 fg)).setCell (p := ⟨w.heap.size + 1, 0, none⟩) (by simp) (.int .i64 fd)).setCell (p := ⟨w.heap.size + 1, 1, none⟩) (by simp) (.int .i64 fl)).setCell (p := ⟨w.heap.size + 1, 2, none⟩) (by simp) (.int .i64 fv)).setCell (p := ⟨w.heap.size + 1, 3, none⟩) (by simp) (.int .i64 fg))
    generalize ((((((((w1.setCell ⟨w.heap.size + 1, 0, none⟩ (.int .i64 fd)).setCell ⟨w.heap.size + 1, 1, none⟩ (.int .i64 fl)).setCell ⟨w.heap.size + 1, 2, none⟩ (.int .i64 fv)).setCell ⟨w.heap.size + 1, 3, none⟩ (.int .i64 fg)).setCell ⟨w.heap.size + 1, 0, none⟩ (.int .i64 fd)).setCell ⟨w.heap.size + 1, 1, none⟩ (.int .i64 fl)).setCell ⟨w.heap.size + 1, 2, none⟩ (.int .i64 fv)).setCell ⟨w.heap.size + 1, 3, none⟩ (.int .i64 fg)) = V at hBV bV ⊢
    have v0 := hBV.cell 0
    have v1 := hBV.cell 1
    have v2 := hBV.cell 2
    have v3 := hBV.cell 3
    simp at v0 v1 v2 v3
    clear hcc hff HA hne hne' hb hrA hB hob
    
    exact bodyPost_ret (v := .tuple #[.agg #[.int .i64 fd, .int .i64 fl, .int .i64 fv, .int .i64 fg], .bool fb, .int .i64 0]) (by simp [results, Try.results18, go_sem, v0, v1, v2, v3]) rfl ⟨rfl, bV⟩
  · rw [if_neg he]
    dsimp only
    have he2 : (er != 0) = true := by simpa using he
    clear he
    go_enter Try.func18, Try.ntmps18
    go_wp2_with ((go_at_call 16; refine (q1 _).mono ?_; rintro e w1 ⟨pa, ca, hca, rfl, hob, hrA, hb⟩; have hb0 := hb; have hsz := hb.size; (try simp at hsz); (first | (have hbl := blater2 HA (by first | exact Nat.le_refl _ | (simp; done) | (simp; omega)) hb; obtain ⟨hcc, hff, HA, hne, hne'⟩ := hbl) | (obtain ⟨hcc, hff, HA, hne, hne'⟩ := blater1 hb)); (try simp only [World.size_alloc, World.size_setCell] at HA)))
    repeat' (first | (go_region <;> go_wp2_with ((go_at_call 16; refine (q1 _).mono ?_; rintro e w1 ⟨pa, ca, hca, rfl, hob, hrA, hb⟩; have hb0 := hb; have hsz := hb.size; (try simp at hsz); (first | (have hbl := blater2 HA (by first | exact Nat.le_refl _ | (simp; done) | (simp; omega)) hb; obtain ⟨hcc, hff, HA, hne, hne'⟩ := hbl) | (obtain ⟨hcc, hff, HA, hne, hne'⟩ := blater1 hb)); (try simp only [World.size_alloc, World.size_setCell] at HA)))))
    all_goals go_light
    all_goals (refine bodyPost_ret (v := .tuple #[.agg #[.int .i64 0, .int .i64 0, .int .i64 0, .int .i64 0], .bool false, .int .i64 er]) (by simp [results, Try.results18, go_sem, *]) rfl ⟨rfl, ?_⟩; repeat' (first | exact Below.refl _ _ | refine Below.drew ?_ | refine below_drewN ?_ _ | refine Below.alloc ?_ (by first | omega | (simp <;> omega)) _ | refine Below.setCell ?_ (by first | omega | (simp <;> omega)) _ | refine Below.trans ?_ (Below.mono (by assumption) (by first | omega | (simp <;> omega)))))

set_option maxHeartbeats 2000000 in
theorem rat_p (s : ByteArray) (p e l d a b c lits : Int) (w : World) (hl : s.size ≤ 9223372036854775807) :
    Calls Try.prog 19 #[.string s, .int .i64 p, .int .i64 e, .int .i64 l, .int .i64 d, .agg #[.int .i64 a, .int .i64 b, .int .i64 c], .int .i64 lits] w fun en w' => en = .returned (.tuple #[.agg #[.int .i64 (Rat s p e l d a b c lits).1.1, .int .i64 (Rat s p e l d a b c lits).1.2.1, .int .i64 (Rat s p e l d a b c lits).1.2.2.1, .int .i64 (Rat s p e l d a b c lits).1.2.2.2], .bool (Rat s p e l d a b c lits).2.1, .int .i64 (Rat s p e l d a b c lits).2.2]) ∧ Below w.heap.size w w' := by
  have q1 := fun w => rall_p s p e l d a b c lits w hl
  have hn := rall_len s p e l d a b c lits
  unfold Rat
  generalize Rall s p e l d a b c lits = R at q1 hn
  obtain ⟨ms, er⟩ := R
  dsimp only at q1 hn ⊢
  by_cases he : er = 0
  · rw [if_pos he]
    subst he
    have q2 := fun pa ca w h => rbest_p pa ms ca w h (by omega)
    obtain ⟨fb, hfb⟩ : ∃ x, decide (0 < ms.length) = x := ⟨_, rfl⟩
    generalize mbZ ms ms.length = m at q2 ⊢
    rw [hfb] at q2 ⊢
    clear hfb
    obtain ⟨fd, fl, fv, fg⟩ := m
    dsimp only at q2 ⊢
    go_enter Try.func19, Try.ntmps19
    go_wp2_with (first | (go_at_call 17; refine (q1 _).mono ?_; rintro e w1 ⟨pa, ca, hca, rfl, hob, hrA, hb⟩; have hb0 := hb; have hsz := hb.size; (try simp at hsz); (first | (have hbl := blater2 HA (by first | exact Nat.le_refl _ | (simp; done) | (simp; omega)) hb; obtain ⟨hcc, hff, HA, hne, hne'⟩ := hbl) | (obtain ⟨hcc, hff, HA, hne, hne'⟩ := blater1 hb)); (try simp only [World.size_alloc, World.size_setCell] at HA)) | (go_at_call 31; refine (q2 pa ca _ (hrA.later (by repeat' (first | exact Below.refl _ _ | refine Below.drew ?_ | refine below_drewN ?_ _ | refine Below.alloc ?_ (by first | omega | (simp <;> omega)) _ | refine Below.setCell ?_ (by first | omega | (simp <;> omega)) _ | refine Below.trans ?_ (Below.mono (by assumption) (by first | omega | (simp <;> omega))))))).mono ?_; rintro e w1 ⟨rfl, hb⟩; have hsz := hb.size; (try simp at hsz); (first | (have hbl := blater2 HA (by first | exact Nat.le_refl _ | (simp; done) | (simp; omega)) hb; obtain ⟨hcc, hff, HA, hne, hne'⟩ := hbl) | (obtain ⟨hcc, hff, HA, hne, hne'⟩ := blater1 hb)); (try simp only [World.size_alloc, World.size_setCell] at HA); have hB := (((Blk.new (w.alloc (.cells #[.int .i64 a, .int .i64 b, .int .i64 c] 23)) 32 #[.int .i64 0, .int .i64 0, .int .i64 0, .int .i64 0]).below hb0 (by simp)).below hb (by simp; omega)); (try simp only [World.size_alloc] at hB); have bW : Below w.heap.size w w1 := (by repeat' (first | exact Below.refl _ _ | refine Below.drew ?_ | refine below_drewN ?_ _ | refine Below.alloc ?_ (by first | omega | (simp <;> omega)) _ | refine Below.setCell ?_ (by first | omega | (simp <;> omega)) _ | refine Below.trans ?_ (Below.mono (by assumption) (by first | omega | (simp <;> omega)))))))
    repeat' (first | (go_region <;> go_wp2_with (first | (go_at_call 17; refine (q1 _).mono ?_; rintro e w1 ⟨pa, ca, hca, rfl, hob, hrA, hb⟩; have hb0 := hb; have hsz := hb.size; (try simp at hsz); (first | (have hbl := blater2 HA (by first | exact Nat.le_refl _ | (simp; done) | (simp; omega)) hb; obtain ⟨hcc, hff, HA, hne, hne'⟩ := hbl) | (obtain ⟨hcc, hff, HA, hne, hne'⟩ := blater1 hb)); (try simp only [World.size_alloc, World.size_setCell] at HA)) | (go_at_call 31; refine (q2 pa ca _ (hrA.later (by repeat' (first | exact Below.refl _ _ | refine Below.drew ?_ | refine below_drewN ?_ _ | refine Below.alloc ?_ (by first | omega | (simp <;> omega)) _ | refine Below.setCell ?_ (by first | omega | (simp <;> omega)) _ | refine Below.trans ?_ (Below.mono (by assumption) (by first | omega | (simp <;> omega))))))).mono ?_; rintro e w1 ⟨rfl, hb⟩; have hsz := hb.size; (try simp at hsz); (first | (have hbl := blater2 HA (by first | exact Nat.le_refl _ | (simp; done) | (simp; omega)) hb; obtain ⟨hcc, hff, HA, hne, hne'⟩ := hbl) | (obtain ⟨hcc, hff, HA, hne, hne'⟩ := blater1 hb)); (try simp only [World.size_alloc, World.size_setCell] at HA); have hB := (((Blk.new (w.alloc (.cells #[.int .i64 a, .int .i64 b, .int .i64 c] 23)) 32 #[.int .i64 0, .int .i64 0, .int .i64 0, .int .i64 0]).below hb0 (by simp)).below hb (by simp; omega)); (try simp only [World.size_alloc] at hB); have bW : Below w.heap.size w w1 := (by repeat' (first | exact Below.refl _ _ | refine Below.drew ?_ | refine below_drewN ?_ _ | refine Below.alloc ?_ (by first | omega | (simp <;> omega)) _ | refine Below.setCell ?_ (by first | omega | (simp <;> omega)) _ | refine Below.trans ?_ (Below.mono (by assumption) (by first | omega | (simp <;> omega)))))))))
    have hBV := ((((hB.set 0 (.int .i64 fd)).set 1 (.int .i64 fl)).set 2 (.int .i64 fv)).set 3 (.int .i64 fg))
    have bV := ((((bW.setCell (p := ⟨w.heap.size + 1, 0, none⟩) (by simp) (.int .i64 fd)).setCell (p := ⟨w.heap.size + 1, 1, none⟩) (by simp) (.int .i64 fl)).setCell (p := ⟨w.heap.size + 1, 2, none⟩) (by simp) (.int .i64 fv)).setCell (p := ⟨w.heap.size + 1, 3, none⟩) (by simp) (.int .i64 fg))
    generalize ((((w1.setCell ⟨w.heap.size + 1, 0, none⟩ (.int .i64 fd)).setCell ⟨w.heap.size + 1, 1, none⟩ (.int .i64 fl)).setCell ⟨w.heap.size + 1, 2, none⟩ (.int .i64 fv)).setCell ⟨w.heap.size + 1, 3, none⟩ (.int .i64 fg)) = V at hBV bV ⊢
    have v0 := hBV.cell 0
    have v1 := hBV.cell 1
    have v2 := hBV.cell 2
    have v3 := hBV.cell 3
    simp at v0 v1 v2 v3
    clear hcc hff HA hne hne' hb hrA hB hob
    have hBW := hBV.alloc (.cells #[.int .i64 fd, .int .i64 fl, .int .i64 fv, .int .i64 fg] 32); replace bV := bV.alloc (by have := bV.size; omega) (.cells #[.int .i64 fd, .int .i64 fl, .int .i64 fv, .int .i64 fg] 32); generalize (V.alloc _) = V2 at hBW bV ⊢; replace v0 := hBW.cell 0; replace v1 := hBW.cell 1; replace v2 := hBW.cell 2; replace v3 := hBW.cell 3; simp at v0 v1 v2 v3
    exact bodyPost_ret (v := .tuple #[.agg #[.int .i64 fd, .int .i64 fl, .int .i64 fv, .int .i64 fg], .bool fb, .int .i64 0]) (by simp [results, Try.results19, go_sem, v0, v1, v2, v3]) rfl ⟨rfl, bV⟩
  · rw [if_neg he]
    dsimp only
    have he2 : (er != 0) = true := by simpa using he
    clear he
    go_enter Try.func19, Try.ntmps19
    go_wp2_with ((go_at_call 17; refine (q1 _).mono ?_; rintro e w1 ⟨pa, ca, hca, rfl, hob, hrA, hb⟩; have hb0 := hb; have hsz := hb.size; (try simp at hsz); (first | (have hbl := blater2 HA (by first | exact Nat.le_refl _ | (simp; done) | (simp; omega)) hb; obtain ⟨hcc, hff, HA, hne, hne'⟩ := hbl) | (obtain ⟨hcc, hff, HA, hne, hne'⟩ := blater1 hb)); (try simp only [World.size_alloc, World.size_setCell] at HA)))
    repeat' (first | (go_region <;> go_wp2_with ((go_at_call 17; refine (q1 _).mono ?_; rintro e w1 ⟨pa, ca, hca, rfl, hob, hrA, hb⟩; have hb0 := hb; have hsz := hb.size; (try simp at hsz); (first | (have hbl := blater2 HA (by first | exact Nat.le_refl _ | (simp; done) | (simp; omega)) hb; obtain ⟨hcc, hff, HA, hne, hne'⟩ := hbl) | (obtain ⟨hcc, hff, HA, hne, hne'⟩ := blater1 hb)); (try simp only [World.size_alloc, World.size_setCell] at HA)))))
    all_goals go_light
    all_goals (refine bodyPost_ret (v := .tuple #[.agg #[.int .i64 0, .int .i64 0, .int .i64 0, .int .i64 0], .bool false, .int .i64 er]) (by simp [results, Try.results19, go_sem, *]) rfl ⟨rfl, ?_⟩; repeat' (first | exact Below.refl _ _ | refine Below.drew ?_ | refine below_drewN ?_ _ | refine Below.alloc ?_ (by first | omega | (simp <;> omega)) _ | refine Below.setCell ?_ (by first | omega | (simp <;> omega)) _ | refine Below.trans ?_ (Below.mono (by assumption) (by first | omega | (simp <;> omega)))))
end Go.Proofs.Ytammacofhdbgcaa
