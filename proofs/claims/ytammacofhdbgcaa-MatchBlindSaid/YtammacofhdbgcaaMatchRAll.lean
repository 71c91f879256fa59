/-
  The reference's matches of a place, walked.
-/
import Derived.Test.YtammacofhdbgcaaRows
import Derived.Test.YtammacofhdbgcaaMatchAll
import Derived.Test.YtammacofhdbgcaaRepsRef
import Derived.Test.YtammacofhdbgcaaRepsCheckR
import Derived.Test.YtammacofhdbgcaaCommon
import Derived.Deep.Light
import Derived.Shelf.Abstract
import Derived.Shelf.RegionOpen
import Derived.OwnWalkIn
import Derived.TacticsInMore
import Derived.LoopNIn
import Derived.LoopIn
import Derived.Maps.OwnIn
import Derived.Outline
import Derived.Deep.RegionHeld3
import Derived.Deep.AppendLies
import Derived.IntWalk
namespace Go.Proofs.Ytammacofhdbgcaa
open Go.RowKit
set_option linter.unusedSimpArgs false
set_option linter.unusedVariables false
open Go.Shelf
attribute [local go_sem] Oper.semAt_some

set_option maxRecDepth 100000 in
set_option maxHeartbeats 4000000 in
theorem rall_1 (s : ByteArray) (p e l d : Nat) (a b c lits : Int) (w : World) (hs : s.size ≤ 1048576) (hpe : p ≤ e) (hes : e ≤ s.size) (hl1 : 10 ≤ l) (hl2 : l ≤ 27) (hd1 : 1 ≤ d) (hd2 : d ≤ 64) (hli : 0 ≤ lits) (hw : wchk s.size p e l = 0) (hc : chkL true [a, b, c] = 0) (C : List Nat) (HC : Hid (cands s p e l d = C)) (hCl : C.length ≤ 64) (HCM : Hid (∀ q ∈ C, q < p)) :
    Calls Try.prog 17 #[.string s, .int .i64 (p : Int), .int .i64 (e : Int), .int .i64 (l : Int), .int .i64 (d : Int), .agg #[.int .i64 a, .int .i64 b, .int .i64 c], .int .i64 lits] w (AllPost (mofs s p e a b c lits C, 0) w) := by
  have q1 := fun w => rwcheck_p s p e l w (by omega)
  have q2 := fun w => check_r a b c w
  have q3 := fun w => rcand_p s p e l d w (by omega)
  have hR : wcandR s p e l d = (C, 0) := by
    unfold wcandR
    rw [hw, if_pos rfl, if_pos ⟨by omega, by omega⟩]
    simp only [Int.toNat_natCast]
    rw [HC.out]
  rw [hw] at q1
  rw [hc] at q2
  rw [hR] at q3
  have g1 : ¬ (d : Int) < 1 := by omega
  have g2 : ¬ (64 : Int) < (d : Int) := by omega
  have g3 : ¬ lits < 0 := by omega
  have HCH := Lib.hid hc
  clear hw hc hR
  go_enter Try.func17, Try.ntmps17
  go_wp2_with (first | (go_at_call 55; refine (q1 _).mono ?_; rintro e w1 ⟨rfl, hb⟩; have hsz := hb.size; (try simp at hsz); (first | (have hbl := blater2 HA (by first | exact Nat.le_refl _ | (simp; done) | (simp; omega)) hb; obtain ⟨hcc, hff, HA, hne, hne'⟩ := hbl) | (obtain ⟨hcc, hff, HA, hne, hne'⟩ := blater1 hb)); (try simp only [World.size_alloc, World.size_setCell] at HA)) | (go_at_call 56; refine (q2 _).mono ?_; rintro e w1 ⟨rfl, hb⟩; have hsz := hb.size; (try simp at hsz); (first | (have hbl := blater2 HA (by first | exact Nat.le_refl _ | (simp; done) | (simp; omega)) hb; obtain ⟨hcc, hff, HA, hne, hne'⟩ := hbl) | (obtain ⟨hcc, hff, HA, hne, hne'⟩ := blater1 hb)); (try simp only [World.size_alloc, World.size_setCell] at HA)) | (go_at_call 57; refine (q3 _).mono ?_; rintro e w1 ⟨pa, ca, hca, rfl, hrA, hb⟩; have hsz := hb.size; (try simp at hsz); (first | (have hbl := blater2 HA (by first | exact Nat.le_refl _ | (simp; done) | (simp; omega)) hb; obtain ⟨hcc, hff, HA, hne, hne'⟩ := hbl) | (obtain ⟨hcc, hff, HA, hne, hne'⟩ := blater1 hb)); (try simp only [World.size_alloc, World.size_setCell] at HA)))
  repeat (first | (go_region <;> go_wp2_with (first | (go_at_call 55; refine (q1 _).mono ?_; rintro e w1 ⟨rfl, hb⟩; have hsz := hb.size; (try simp at hsz); (first | (have hbl := blater2 HA (by first | exact Nat.le_refl _ | (simp; done) | (simp; omega)) hb; obtain ⟨hcc, hff, HA, hne, hne'⟩ := hbl) | (obtain ⟨hcc, hff, HA, hne, hne'⟩ := blater1 hb)); (try simp only [World.size_alloc, World.size_setCell] at HA)) | (go_at_call 56; refine (q2 _).mono ?_; rintro e w1 ⟨rfl, hb⟩; have hsz := hb.size; (try simp at hsz); (first | (have hbl := blater2 HA (by first | exact Nat.le_refl _ | (simp; done) | (simp; omega)) hb; obtain ⟨hcc, hff, HA, hne, hne'⟩ := hbl) | (obtain ⟨hcc, hff, HA, hne, hne'⟩ := blater1 hb)); (try simp only [World.size_alloc, World.size_setCell] at HA)) | (go_at_call 57; refine (q3 _).mono ?_; rintro e w1 ⟨pa, ca, hca, rfl, hrA, hb⟩; have hsz := hb.size; (try simp at hsz); (first | (have hbl := blater2 HA (by first | exact Nat.le_refl _ | (simp; done) | (simp; omega)) hb; obtain ⟨hcc, hff, HA, hne, hne'⟩ := hbl) | (obtain ⟨hcc, hff, HA, hne, hne'⟩ := blater1 hb)); (try simp only [World.size_alloc, World.size_setCell] at HA)))))
  have r1 : w1.cell? ⟨w.heap.size, 0, none⟩ = some (.int .i64 a) := by simp [go_sem, *]
  have r2 : w1.cell? ⟨w.heap.size, 1, none⟩ = some (.int .i64 b) := by simp [go_sem, *]
  have r3 : w1.cell? ⟨w.heap.size, 2, none⟩ = some (.int .i64 c) := by simp [go_sem, *]
  have hw1 : w.heap.size + 1 ≤ w1.heap.size := by omega
  have B0 : Below w.heap.size w w1 := by
    repeat' (first | exact Below.refl _ _ | refine Below.drew ?_ | refine below_drewN ?_ _ | refine Below.alloc ?_ (by first | omega | (simp <;> omega)) _ | refine Below.setCell ?_ (by first | omega | (simp <;> omega)) _ | refine Below.trans ?_ (Below.mono (by assumption) (by first | omega | (simp <;> omega))))
  clear hcc hff HA hne hne' hsz hb g1 g2 g3 q1 q2 q3
  obtain ⟨i4, hi4, hz0, hz1, hz2⟩ := info_parts infoMatch
  go_loopw [19, 20] (fun v i wr => ∃ (k : Nat) (ad : Option Addr) (cap : Nat), k ≤ C.length ∧ i = .int .i64 (k : Int) ∧ v = .slice ad k cap ∧ wr.ownsRow w1.heap.size 32 4 (.slice ad k cap) k (flatM (mofs s p e a b c lits (C.take k))) ∧ Below w1.heap.size w1 wr) (fun _ i _ => C.length - (intOf i).toNat)
  case atStart => exact ⟨0, none, 0, by omega, rfl, rfl, World.ownsRow_nil _ _ _ _, Below.refl _ _⟩
  case round =>
    obtain ⟨k, ad, cap, hk, rfl, rfl, ho, hb⟩ := hrel
    have hbs := hb.size
    by_cases hlt : k < C.length
    · obtain ⟨pb, po, rfl, hb1, hc1⟩ := hrA.at (i := k) (by rw [nats_len]; exact hlt)
      have c0 := hc1 k (by rw [nats_len]; exact hlt)
      obtain ⟨q, hq⟩ : ∃ q, C.getD k 0 = q := ⟨_, rfl⟩
      have hn : (nats C).getD k 0 = (q : Int) := by rw [← hq]; simp [nats, List.getD_eq_getElem?_getD, hlt]
      rw [hn] at c0
      have hqp : q < p := HCM.out q (by rw [← hq]; simp [List.getD_eq_getElem?_getD, hlt])
      have c1 := (hb.cell (p := ⟨pb, po + k, none⟩) hb1).trans c0
      have x1 := (hb.cell (p := ⟨w.heap.size, 0, none⟩) (by show w.heap.size < _; omega)).trans r1
      have x2 := (hb.cell (p := ⟨w.heap.size, 1, none⟩) (by show w.heap.size < _; omega)).trans r2
      have x3 := (hb.cell (p := ⟨w.heap.size, 2, none⟩) (by show w.heap.size < _; omega)).trans r3
      have hcm : wcom s (q : Int) (p : Int) (e : Int) = (((cmn s (e - p) q p : Nat) : Int), 0) := by
        unfold wcom
        rw [if_neg (by omega), if_pos ⟨by omega, by omega, by omega, by omega⟩]
        rw [show ((e : Int) - (p : Int)).toNat = e - p by omega, Int.toNat_natCast, Int.toNat_natCast]
      have qC := fun w => rcommon_p s (q : Int) (p : Int) (e : Int) w (by omega)
      rw [hcm] at qC
      have qV := fun w => value_r a b c ((p : Int) - (q : Int)) lits w
      obtain ⟨n, hn9⟩ : ∃ n, cmn s (e - p) q p = n := ⟨_, rfl⟩
      rw [hn9] at qC
      have hn10 : n ≤ e - p := by rw [← hn9]; exact cmn_le _ _ _ _
      obtain ⟨v, hv1, hv2, hv3, _⟩ := rval_ok (a := a) (b := b) (c := c) (d := (p : Int) - (q : Int)) (l := lits) HCH.out (by omega) (by omega) hli
      rw [hv1] at qV
      have hmo : mof s p e a b c lits q = ((p : Int) - (q : Int), (n : Int), v, mgain (n : Int) v) := by unfold mof; rw [hn9, hv1]
      have qG := fun w => rgain_s (n : Int) v w (by omega) (by omega) (by omega) (by omega)
      generalize mgain (n : Int) v = g at qG hmo
      have htk : flatM (mofs s p e a b c lits (C.take (k + 1))) = flatM (mofs s p e a b c lits (C.take k)) ++ [.int .i64 ((p : Int) - (q : Int)), .int .i64 (n : Int), .int .i64 v, .int .i64 g] := by
        have h1 : C.take (k + 1) = C.take k ++ [q] := by
          rw [List.take_succ_eq_append_getElem hlt, ← hq]
          simp [List.getD_eq_getElem?_getD, hlt]
        rw [h1]
        unfold mofs
        rw [List.map_append, flatM_append]
        simp only [List.map_cons, List.map_nil, hmo]
        rfl
      dsimp only at qC qV
      have HTK := Lib.hid htk
      have HO := Lib.hid ho
      have i0 : (0 : Int) ≤ (k : Int) := by omega
      have i1 : (k : Int) < (C.length : Int) := by omega
      have hwr : IntKind.i64.wrap ((p : Int) - (q : Int)) = (p : Int) - (q : Int) := IntWalk.i64_in _ (by omega)
      have hpb : pb < wr.heap.size := by omega
      have hpw : w.heap.size < wr.heap.size := by omega
      clear hc1 c0 hn hq hcm hn9 hv1 hmo htk ho
      go_wp2_with (go_at_call 58; refine (qC _).mono ?_; rintro e' wA ⟨rfl, hbA⟩; replace c1 := (hbA.cell (p := ⟨pb, po + k, none⟩) hpb).trans c1; replace x1 := (hbA.cell (p := ⟨w.heap.size, 0, none⟩) hpw).trans x1; replace x2 := (hbA.cell (p := ⟨w.heap.size, 1, none⟩) hpw).trans x2; replace x3 := (hbA.cell (p := ⟨w.heap.size, 2, none⟩) hpw).trans x3; have hsA := hbA.size; have hpbA : pb < wA.heap.size := by omega)
      have hpwA : w.heap.size < wA.heap.size := by omega
      refine wp_region_later1 (by kernel_rfl) (by kernel_rfl) ?_
      intro hLC
      repeat (go_big_quiet_step ((go_at_call 59; exact Calls.later_of (qV _))))
      refine wpQuiet_nil ?_
      intro wB hbB
      clear hLC
      have hsB := hbB.size
      have c2 := (hbB.cell (p := ⟨pb, po + k, none⟩) hpbA).trans c1
      clear x1 x2 x3 c1
      have hOB := ownsRow_later (ownsRow_later HO.out hbA) hbB
      have HOB := Lib.hid hOB
      clear hOB
      have CN : ∀ (j : Nat) (u : Value), [Value.int .i64 ((p : Int) - (q : Int)), .int .i64 (n : Int), .int .i64 v, .int .i64 g][j]? = some u → (wB.alloc (.cells #[.int .i64 ((p : Int) - (q : Int)), .int .i64 (n : Int), .int .i64 v, .int .i64 g] 32)).drew.cell? ((⟨wB.heap.size, 0, none⟩ : Addr).add j) = some u := by
        intro j u hj
        match j, hj with
        | 0, hj => simp at hj; subst hj; simp [Addr.add, go_sem]
        | 1, hj => simp at hj; subst hj; simp [Addr.add, go_sem]
        | 2, hj => simp at hj; subst hj; simp [Addr.add, go_sem]
        | 3, hj => simp at hj; subst hj; simp [Addr.add, go_sem]
      have C1 : ∀ u ∈ [Value.int .i64 ((p : Int) - (q : Int)), .int .i64 (n : Int), .int .i64 v, .int .i64 g], u.oneCell' = true := by
        intro u hu
        simp at hu
        rcases hu with rfl | rfl | rfl | rfl <;> rfl
      have HCN := Lib.hid CN
      have HC1 := Lib.hid C1
      have hpbB : pb < wB.heap.size := by omega
      have hnb : (Value.slice ad k cap).ownBlock ≠ some pb := fun h => by have := own_base4 HO.out _ h; omega
      have HNE := Lib.hid hnb
      have c3 : (wB.alloc (.cells #[.int .i64 ((p : Int) - (q : Int)), .int .i64 (n : Int), .int .i64 v, .int .i64 g] 32)).drew.cell? ⟨pb, po + k, none⟩ = some (.int .i64 (q : Int)) := (((Below.refl _ wB).alloc (Nat.le_refl _) _).drew.cell (p := ⟨pb, po + k, none⟩) hpbB).trans c2
      clear hnb
      clear CN C1
      go_wp2
      go_region_held3 (fun w' => w'.cell? ⟨pb, po + k, none⟩ = some (.int .i64 (q : Int))) (first | go_keep | (refine hgrow.cell ?_ (Ne.symm HNE.out); first | assumption | (simp [go_sem]; omega) | go_keep))
        (first | (go_at_call 60; refine (qG _).mono ?_; rintro e' w' ⟨rfl, rfl⟩) | (refine step_append_lies _ (by rfl) _ _ 27 (by rfl) w1.heap.size 32 i4 (.agg #[.int .i64 0, .int .i64 0, .int .i64 0, .int .i64 0]) 4 32 Try.underlying27 hi4 hz0 hz1 hz2 (by rfl) (by decide) _ k _ (by rfl) ((HOB.out.alloc _).drew) ⟨wB.heap.size, 0, none⟩ 1 1 [.int .i64 ((p : Int) - (q : Int)), .int .i64 (n : Int), .int .i64 v, .int .i64 g] (by rfl) (by rfl) HCN.out HC1.out (by decide) (by unfold maxLen; omega) (by omega) (by simp; omega) _ rfl ?_; intro gb capb wC hown1 hgrow hat hlt2))
      clear hwr
      go_wp2
      go_roundw
      case rel =>
        refine ⟨k + 1, some ⟨gb, 0, none⟩, capb, by omega, by go_num, rfl, ?_, ?_⟩
        · rw [HTK.out]
          exact hown1
        · refine (((hb.trans (hbA.mono hbs)).trans (hbB.mono (by omega))).alloc (by omega) _).drew.grown hgrow (by simp; omega) (own_base4 HO.out)
      case measure => go_light; simp [intOf] <;> omega
    · have hkk : k = C.length := by omega
      subst hkk
      have HO := Lib.hid ho
      clear ho
      go_wp2
      go_light
      have hln : (mofs s p e a b c lits C).length = C.length := mofs_len _ _ _ _ _ _ _ _
      refine bodyPost_ret (results_tmp2 rfl _ _ _) rfl ⟨ad, cap, ?_, ?_, ?_, ?_, ?_⟩
      · rw [hln]; exact own_cap4 HO.out
      · rw [hln]; rfl
      · rw [hln]; intro g hg
        have := own_base4 HO.out g hg
        omega
      · have hrow := RowM.of_own HO.out (by rw [mofs_len, List.length_take]; omega)
        rw [List.take_of_length_le (Nat.le_refl _)] at hrow
        exact hrow
      · exact B0.trans (hb.mono (by omega))

set_option maxHeartbeats 1000000 in
theorem rall_e1 (s : ByteArray) (p e l d a b c lits : Int) (w : World) (hl : s.size ≤ 9223372036854775807) (hw : wchk s.size p e l ≠ 0) :
    Calls Try.prog 17 #[.string s, .int .i64 p, .int .i64 e, .int .i64 l, .int .i64 d, .agg #[.int .i64 a, .int .i64 b, .int .i64 c], .int .i64 lits] w (AllPost ([], wchk s.size p e l) w) := by
  have q1 := fun w => rwcheck_p s p e l w hl
  have q2 := fun w => check_r a b c w
  have k1 : (wchk s.size p e l == 0) = false := by simpa using hw
  have k2 : (wchk s.size p e l != 0) = true := by simpa using hw
  clear hw
  go_enter Try.func17, Try.ntmps17
  go_wp2_with (first | (go_at_call 55; refine (q1 _).mono ?_; rintro e w1 ⟨rfl, hb⟩; have hsz := hb.size; (try simp at hsz); (first | (have hbl := blater2 HA (by first | exact Nat.le_refl _ | (simp; done) | (simp; omega)) hb; obtain ⟨hcc, hff, HA, hne, hne'⟩ := hbl) | (obtain ⟨hcc, hff, HA, hne, hne'⟩ := blater1 hb)); (try simp only [World.size_alloc, World.size_setCell] at HA)))
  repeat' (first | (go_region <;> go_wp2_with (first | (go_at_call 55; refine (q1 _).mono ?_; rintro e w1 ⟨rfl, hb⟩; have hsz := hb.size; (try simp at hsz); (first | (have hbl := blater2 HA (by first | exact Nat.le_refl _ | (simp; done) | (simp; omega)) hb; obtain ⟨hcc, hff, HA, hne, hne'⟩ := hbl) | (obtain ⟨hcc, hff, HA, hne, hne'⟩ := blater1 hb)); (try simp only [World.size_alloc, World.size_setCell] at HA)))))
  all_goals (try rw [Exit.noGoto_ret])
  all_goals go_light
  all_goals (refine bodyPost_ret (v := .tuple #[.slice none 0 0, .int .i64 (wchk s.size p e l)]) (by simp [results, Try.results17, go_sem, *]) rfl (allPost_err _ ?_); repeat' (first | exact Below.refl _ _ | refine Below.drew ?_ | refine below_drewN ?_ _ | refine Below.alloc ?_ (by first | omega | (simp <;> omega)) _ | refine Below.setCell ?_ (by first | omega | (simp <;> omega)) _ | refine Below.trans ?_ (Below.mono (by assumption) (by first | omega | (simp <;> omega)))))

set_option maxHeartbeats 1000000 in
theorem rall_e2 (s : ByteArray) (p e l d a b c lits : Int) (w : World) (hl : s.size ≤ 9223372036854775807) (hw : wchk s.size p e l = 0) (hc : chkL true [a, b, c] ≠ 0) :
    Calls Try.prog 17 #[.string s, .int .i64 p, .int .i64 e, .int .i64 l, .int .i64 d, .agg #[.int .i64 a, .int .i64 b, .int .i64 c], .int .i64 lits] w (AllPost ([], chkL true [a, b, c]) w) := by
  have q1 := fun w => rwcheck_p s p e l w hl
  have q2 := fun w => check_r a b c w
  rw [hw] at q1
  have k1 : (chkL true [a, b, c] == 0) = false := by simpa using hc
  have k2 : (chkL true [a, b, c] != 0) = true := by simpa using hc
  clear hw hc
  go_enter Try.func17, Try.ntmps17
  go_wp2_with (first | (go_at_call 55; refine (q1 _).mono ?_; rintro e w1 ⟨rfl, hb⟩; have hsz := hb.size; (try simp at hsz); (first | (have hbl := blater2 HA (by first | exact Nat.le_refl _ | (simp; done) | (simp; omega)) hb; obtain ⟨hcc, hff, HA, hne, hne'⟩ := hbl) | (obtain ⟨hcc, hff, HA, hne, hne'⟩ := blater1 hb)); (try simp only [World.size_alloc, World.size_setCell] at HA)) | (go_at_call 56; refine (q2 _).mono ?_; rintro e w1 ⟨rfl, hb⟩; have hsz := hb.size; (try simp at hsz); (first | (have hbl := blater2 HA (by first | exact Nat.le_refl _ | (simp; done) | (simp; omega)) hb; obtain ⟨hcc, hff, HA, hne, hne'⟩ := hbl) | (obtain ⟨hcc, hff, HA, hne, hne'⟩ := blater1 hb)); (try simp only [World.size_alloc, World.size_setCell] at HA)))
  repeat' (first | (go_region <;> go_wp2_with (first | (go_at_call 55; refine (q1 _).mono ?_; rintro e w1 ⟨rfl, hb⟩; have hsz := hb.size; (try simp at hsz); (first | (have hbl := blater2 HA (by first | exact Nat.le_refl _ | (simp; done) | (simp; omega)) hb; obtain ⟨hcc, hff, HA, hne, hne'⟩ := hbl) | (obtain ⟨hcc, hff, HA, hne, hne'⟩ := blater1 hb)); (try simp only [World.size_alloc, World.size_setCell] at HA)) | (go_at_call 56; refine (q2 _).mono ?_; rintro e w1 ⟨rfl, hb⟩; have hsz := hb.size; (try simp at hsz); (first | (have hbl := blater2 HA (by first | exact Nat.le_refl _ | (simp; done) | (simp; omega)) hb; obtain ⟨hcc, hff, HA, hne, hne'⟩ := hbl) | (obtain ⟨hcc, hff, HA, hne, hne'⟩ := blater1 hb)); (try simp only [World.size_alloc, World.size_setCell] at HA)))))
  all_goals (try rw [Exit.noGoto_ret])
  all_goals go_light
  all_goals (refine bodyPost_ret (v := .tuple #[.slice none 0 0, .int .i64 (chkL true [a, b, c])]) (by simp [results, Try.results17, go_sem, *]) rfl (allPost_err _ ?_); repeat' (first | exact Below.refl _ _ | refine Below.drew ?_ | refine below_drewN ?_ _ | refine Below.alloc ?_ (by first | omega | (simp <;> omega)) _ | refine Below.setCell ?_ (by first | omega | (simp <;> omega)) _ | refine Below.trans ?_ (Below.mono (by assumption) (by first | omega | (simp <;> omega)))))

theorem rall_e3 (s : ByteArray) (p e l d a b c lits : Int) (w : World) (hl : s.size ≤ 9223372036854775807) (hw : wchk s.size p e l = 0) (hc : chkL true [a, b, c] = 0) (hg : d < 1 ∨ 64 < d ∨ lits < 0) :
    Calls Try.prog 17 #[.string s, .int .i64 p, .int .i64 e, .int .i64 l, .int .i64 d, .agg #[.int .i64 a, .int .i64 b, .int .i64 c], .int .i64 lits] w (AllPost ([], 2) w) := by
  have q1 := fun w => rwcheck_p s p e l w hl
  have q2 := fun w => check_r a b c w
  rw [hw] at q1
  rw [hc] at q2
  have hg2 : d < 1 ∨ (¬ d < 1 ∧ 64 < d) ∨ (¬ d < 1 ∧ ¬ 64 < d ∧ lits < 0) := by omega
  clear hg hw hc
  rcases hg2 with g1 | ⟨g1, g2⟩ | ⟨g1, g2, g3⟩
  all_goals
    go_enter Try.func17, Try.ntmps17
    go_wp2_with (first | (go_at_call 55; refine (q1 _).mono ?_; rintro e w1 ⟨rfl, hb⟩; have hsz := hb.size; (try simp at hsz); (first | (have hbl := blater2 HA (by first | exact Nat.le_refl _ | (simp; done) | (simp; omega)) hb; obtain ⟨hcc, hff, HA, hne, hne'⟩ := hbl) | (obtain ⟨hcc, hff, HA, hne, hne'⟩ := blater1 hb)); (try simp only [World.size_alloc, World.size_setCell] at HA)) | (go_at_call 56; refine (q2 _).mono ?_; rintro e w1 ⟨rfl, hb⟩; have hsz := hb.size; (try simp at hsz); (first | (have hbl := blater2 HA (by first | exact Nat.le_refl _ | (simp; done) | (simp; omega)) hb; obtain ⟨hcc, hff, HA, hne, hne'⟩ := hbl) | (obtain ⟨hcc, hff, HA, hne, hne'⟩ := blater1 hb)); (try simp only [World.size_alloc, World.size_setCell] at HA)))
    repeat' (first | (go_region <;> go_wp2_with (first | (go_at_call 55; refine (q1 _).mono ?_; rintro e w1 ⟨rfl, hb⟩; have hsz := hb.size; (try simp at hsz); (first | (have hbl := blater2 HA (by first | exact Nat.le_refl _ | (simp; done) | (simp; omega)) hb; obtain ⟨hcc, hff, HA, hne, hne'⟩ := hbl) | (obtain ⟨hcc, hff, HA, hne, hne'⟩ := blater1 hb)); (try simp only [World.size_alloc, World.size_setCell] at HA)) | (go_at_call 56; refine (q2 _).mono ?_; rintro e w1 ⟨rfl, hb⟩; have hsz := hb.size; (try simp at hsz); (first | (have hbl := blater2 HA (by first | exact Nat.le_refl _ | (simp; done) | (simp; omega)) hb; obtain ⟨hcc, hff, HA, hne, hne'⟩ := hbl) | (obtain ⟨hcc, hff, HA, hne, hne'⟩ := blater1 hb)); (try simp only [World.size_alloc, World.size_setCell] at HA)))))
    all_goals (try rw [Exit.noGoto_ret])
    all_goals go_light
    all_goals (refine bodyPost_ret (v := .tuple #[.slice none 0 0, .int .i64 2]) (by simp [results, Try.results17, go_sem, *]) rfl (allPost_err _ ?_); repeat' (first | exact Below.refl _ _ | refine Below.drew ?_ | refine below_drewN ?_ _ | refine Below.alloc ?_ (by first | omega | (simp <;> omega)) _ | refine Below.setCell ?_ (by first | omega | (simp <;> omega)) _ | refine Below.trans ?_ (Below.mono (by assumption) (by first | omega | (simp <;> omega)))))
theorem rall_p (s : ByteArray) (p e l d a b c lits : Int) (w : World) (hl : s.size ≤ 9223372036854775807) :
    Calls Try.prog 17 #[.string s, .int .i64 p, .int .i64 e, .int .i64 l, .int .i64 d, .agg #[.int .i64 a, .int .i64 b, .int .i64 c], .int .i64 lits] w (AllPost (Rall s p e l d a b c lits) w) := by
  unfold Rall
  by_cases hw : wchk s.size p e l = 0
  · rw [if_neg (by simpa using hw)]
    by_cases hc : chkL true [a, b, c] = 0
    · rw [if_neg (by simpa using hc)]
      by_cases hg : d < 1 ∨ 64 < d ∨ lits < 0
      · rw [if_pos hg]
        exact rall_e3 s p e l d a b c lits w hl hw hc hg
      · rw [if_neg hg]
        obtain ⟨h1, h2, h3, h4, h5, h6⟩ := wchk_ok hw
        obtain ⟨p, rfl⟩ : ∃ n : Nat, p = (n : Int) := ⟨p.toNat, by omega⟩
        obtain ⟨e, rfl⟩ : ∃ n : Nat, e = (n : Int) := ⟨e.toNat, by omega⟩
        obtain ⟨l, rfl⟩ : ∃ n : Nat, l = (n : Int) := ⟨l.toNat, by omega⟩
        obtain ⟨d, rfl⟩ : ∃ n : Nat, d = (n : Int) := ⟨d.toNat, by omega⟩
        simp only [Int.toNat_natCast]
        have e5 : (candAll s p e l).take d = cands s p e l d := by
          unfold cands candAll
          split <;> simp
        exact rall_1 s p e l d a b c lits w h1 (by omega) (by omega) (by omega) (by omega) (by omega) (by omega) (by omega) hw hc _ rfl (by rw [← e5]; simp; omega) (Lib.hid (fun q hq => by rw [← e5] at hq; exact candAll_lt s p e l q (List.mem_of_mem_take hq)))
    · rw [if_pos hc]
      exact rall_e2 s p e l d a b c lits w hl hw hc
  · rw [if_pos hw]
    exact rall_e1 s p e l d a b c lits w hl hw
end Go.Proofs.Ytammacofhdbgcaa
