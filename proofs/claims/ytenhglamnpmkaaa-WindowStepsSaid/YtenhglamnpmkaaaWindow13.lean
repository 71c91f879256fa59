/-
  WindowSteps, walked.
-/
import Derived.Test.YtenhglamnpmkaaaRows
import Derived.Test.YtenhglamnpmkaaaWindow12
import Derived.WalkMore
import Derived.Test.YtenhglamnpmkaaaCommon
import Derived.Deep.Light
import Derived.Shelf.Abstract
import Derived.Shelf.RegionOpen
import Derived.OwnWalkIn
import Derived.TacticsInMore
import Derived.LoopNIn
import Derived.LoopIn
import Derived.Laws.BytesArg
namespace Go.Proofs.Ytenhglamnpmkaaa
open Go.RowKit
set_option linter.unusedSimpArgs false
set_option linter.unusedVariables false
attribute [local go_sem] Oper.semAt_some

theorem infoU8 : (Try.prog.info? 5).map (fun i => (i.zero, i.size, i.bytes)) = some (some (.int .u8 0), 1, 1) := by kernel_rfl
/-- make([]byte, n). -/
theorem mk_bytes (n : Nat) (hn : n ≤ 17592186044416) (w : World) : (Instr.makeSlice 67 (.int .i64 (n : Int)) (.int .i64 (n : Int))).run Try.prog w =
    .ok (.slice (some ⟨w.heap.size, 0, none⟩) n n) (w.alloc (.cells (madeCells #[.int .u8 0] n) 5)) := by
  obtain ⟨i, hi, hz0, hz1, hz2⟩ := info_parts infoU8
  have := run_make (P := Try.prog) w 67 5 i (.int .u8 0) Try.underlying67 hi hz0 .i64 .i64 n n (by omega) (Int.le_refl _) (by rw [hz2]; omega) (by omega)
  rw [this, hz1]
  simp [Value.cells]
theorem near_val (S : ByteArray) (p N : Nat) (hS : S.size = N) (hN : N ≤ 200) (hp : p ≤ N) (hb : ∀ i, i < N → byt S i = byt S 0) : wnearR S p N 10 = if 0 < p ∧ 4 ≤ N - p then ((p : Int) - 1, true, 0) else (0, false, 0) := by
  have h1 := wcandR_ok S p N 1 (by omega) hp (by omega) (by omega)
  unfold wnearR
  simp only [Int.cast_ofNat_Int] at h1
  rw [h1]
  by_cases h : 0 < p ∧ 4 ≤ N - p
  · rw [if_pos h, near_same S p N hb h.1 h.2 (by omega)]
    simp only
    rw [show ((p - 1 : Nat) : Int) = (p : Int) - 1 by omega]
  · rw [if_neg h, cands_all S p N 1 (by omega)]
    unfold backE
    by_cases h2 : N - p < 4
    · rw [if_pos h2]
      rfl
    · rw [if_neg h2]
      obtain rfl : p = 0 := by omega
      rfl
theorem same_bytes (N : Nat) (b : Int) : (strOfNums (List.replicate N b)).size = N ∧ ∀ i, i < N → byt (strOfNums (List.replicate N b)) i = byt (strOfNums (List.replicate N b)) 0 := by
  have h : (strOfNums (List.replicate N b)).data.toList = List.replicate N (UInt8.ofNat b.toNat) := by
    unfold strOfNums
    simp
  constructor
  · have : (strOfNums (List.replicate N b)).data.toList.length = N := by rw [h]; simp
    simpa using this
  · intro i hi
    rw [byt_eq, byt_eq, h]
    simp [List.getD_eq_getElem?_getD, List.getElem?_replicate, hi, show 0 < N by omega]
theorem Row.of_fill {w : World} {B N : Nat} {t : TypeId} {vs : List Value} {b : Int} (h : Blk w B t vs) (hl : vs.length = N) (hv : ∀ i, i < N → vs[i]? = some (.int .u8 b)) : Row .u8 w (some ⟨B, 0, none⟩) (List.replicate N b) := by
  refine .inr ⟨B, 0, rfl, h.lt, fun i hi => ?_⟩
  simp only [List.length_replicate] at hi
  have := h.cell i
  rw [Nat.zero_add, this, hv i hi]
  simp [List.getD_eq_getElem?_getD, List.getElem?_replicate, hi]

set_option maxRecDepth 100000 in
set_option maxHeartbeats 4000000 in
theorem windowSteps_2 (s : ByteArray) (q0 p0 b : Int) (w : World) (N p2 : Nat) (hz : s.size = N) (h2 : N ≤ 2) (hp2 : p2 ≤ N)
    (qT : ∀ w, Calls Try.prog 27 #[.int .i64 p0, .int .i64 ((N : Int) + 1)] w fun e' w' => e' = .returned (.int .i64 (p2 : Int)) ∧ Below w.heap.size w w') :
    Calls Try.prog 13 #[.string s, .int .i64 q0, .int .i64 p0, .int .u8 b] w fun e' w' => e' = .returned (.bool true) ∧ Below w.heap.size w w' := by
  have g1 : ¬ (200 : Int) < (N : Int) := by omega
  have g2 : ¬ (2 : Int) < (N : Int) := by omega
  have hmk : ∀ W, (Instr.makeSlice 67 (.int .i64 (N : Int)) (.int .i64 (N : Int))).run Try.prog W = _ := fun W => mk_bytes N (by omega) W
  go_enter Try.func13, Try.ntmps13
  go_wp2_with ((go_at_call 11; refine (windowKnown_w _).mono ?_; rintro e w1 ⟨rfl, hb⟩; have hsz := hb.size; (try simp at hsz)))
  clear hmk
  all_goals
    obtain ⟨B, hB⟩ : ∃ B, w1.heap.size = B := ⟨_, rfl⟩
    have hBk := Blk.new w1 5 (madeCells #[.int .u8 0] N)
    have hBb : Below w.heap.size w (w1.alloc (.cells (madeCells #[.int .u8 0] N) 5)) := by repeat' (first | exact Below.refl _ _ | refine Below.drew ?_ | refine below_drewN ?_ _ | refine Below.alloc ?_ (by first | omega | (simp <;> omega)) _ | refine Below.setCell ?_ (by first | omega | (simp <;> omega)) _ | refine Below.trans ?_ (Below.mono (by assumption) (by first | omega | (simp <;> omega))))
    have hBl : w.heap.size ≤ B := by omega
    have hBlen : (madeCells #[.int .u8 0] N).toList.length = N := by rw [toList_madeCells_one]; simp
    rw [hB] at hBk ⊢
    clear hsz hb
    go_loopw [16] (fun v wr => ∃ (k : Nat) (vs : List Value), v = .int .i64 (k : Int) ∧ k ≤ N ∧ Blk wr B 5 vs ∧ Hid (vs.length = N) ∧ Hid (∀ i, i < k → vs[i]? = some (.int .u8 b)) ∧ Below w.heap.size w wr) (fun v _ => N - (intOf v).toNat)
    case atStart => exact ⟨0, _, rfl, by omega, hBk, Lib.hid hBlen, Lib.hid (fun i hi => by omega), hBb⟩
    case round =>
      clear hBk hBb hBlen hB
      obtain ⟨k, vs, rfl, hk, hbk, HL, HV, hbo⟩ := hrel
      by_cases hlt : k < N
      · have g3 := hbk.cell k
        have hkl : k < vs.length := by rw [HL.out]; exact hlt
        obtain ⟨u, hu⟩ : ∃ u, vs[k]? = some u := ⟨vs[k], List.getElem?_eq_getElem hkl⟩
        rw [hu] at g3
        have g4 := hbk.frozen k
        have i1 : (k : Int) < (N : Int) := by omega
        have i0 : (0 : Int) ≤ (k : Int) := by omega
        have HU := Lib.hid hu
        clear hu hkl
        go_wp2
        go_roundw
        case rel =>
          refine ⟨k + 1, _, by go_num, by omega, hbk.set k _, ?_, ?_, hbo.setCell (by simp; omega) _⟩
          · have := HL.out
            exact Lib.hid (by rw [List.length_set]; exact this)
          · refine Lib.hid (fun i hi => ?_)
            rw [List.getElem?_set]
            by_cases hik : k = i
            · subst hik
              rw [if_pos rfl, if_pos (by rw [HL.out]; exact hlt)]
            · rw [if_neg hik]
              exact HV.out i (by omega)
        case measure => go_light; simp [intOf] <;> omega
      · obtain rfl : k = N := by omega
        have hws := hbo.size
        have hrow := Row.of_fill hbk HL.out HV.out
        obtain ⟨S, hS⟩ : ∃ S, strOfNums (List.replicate k b) = S := ⟨_, rfl⟩
        obtain ⟨hS1, hS2⟩ := same_bytes k b
        rw [hS] at hS1 hS2
        have qN := fun w => near_p S (p2 : Int) (k : Int) 10 w (by omega)
        rw [near_val S p2 k hS1 (by omega) (by omega) hS2] at qN
        have hcv : ∀ w1, Below wr.heap.size wr w1 → (convert 67 9 (.slice (some ⟨B, 0, none⟩) k k)).run Try.prog w1 = .ok (.string S) w1 := by
          intro w1 hb1
          have hr1 := hrow.later hb1
          have hcell : ∀ i, i < k → w1.cell? ⟨B, 0 + i, none⟩ = some (.int .u8 ((List.replicate k b).getD i 0)) := by
            rcases hr1 with h | ⟨b1, o1, h1, _, h3⟩
            · intro i hi
              have := congrArg List.length h
              simp at this
              omega
            · cases h1
              intro i hi
              exact h3 i (by simpa using hi)
          have := run_convert_bytes_arg (P := Try.prog) w1 67 5 Try.underlying67 Try.underlying5 B 0 k k (List.replicate k b) (by simp) hcell 9 Try.underlying9
          rw [hS] at this
          exact this
        have HCV := Lib.hid hcv
        clear hrow hS hS1 hS2 hcv hBl
        by_cases hit : 0 < p2 ∧ 4 ≤ k - p2
        · obtain ⟨t1, t2⟩ := hit
          rw [if_pos ⟨t1, t2⟩] at qN
          have j1 : (0 : Int) < (p2 : Int) := by omega
          have j2 : (4 : Int) ≤ (k : Int) - (p2 : Int) := by omega
          dsimp only at qN
          go_wp2_with (first | (go_at_call 27; refine (qT _).mono ?_; rintro e w1 ⟨rfl, hbM⟩; have hcv := HCV.out w1 hbM; have hsM := hbM.size) | (go_at_call 43; refine (qN _).mono ?_; rintro e w1 ⟨rfl, hb⟩; have hsz := hb.size; (try simp at hsz)))
          go_ret
          exact ⟨rfl, (hbo.trans (hbM.mono hws)).trans (hb.mono (by omega))⟩
        · rw [if_neg hit] at qN
          dsimp only at qN
          have hit2 : p2 = 0 ∨ (0 < p2 ∧ ¬ (4 : Int) ≤ (k : Int) - (p2 : Int)) := by omega
          clear hit
          rcases hit2 with j1 | ⟨j1, j2⟩
          · subst j1
            go_wp2_with (first | (go_at_call 27; refine (qT _).mono ?_; rintro e w1 ⟨rfl, hbM⟩; have hcv := HCV.out w1 hbM; have hsM := hbM.size) | (go_at_call 43; refine (qN _).mono ?_; rintro e w1 ⟨rfl, hb⟩; have hsz := hb.size; (try simp at hsz)))
            go_ret
            exact ⟨rfl, (hbo.trans (hbM.mono hws)).trans (hb.mono (by omega))⟩
          · have j3 : (0 : Int) < (p2 : Int) := by omega
            go_wp2_with (first | (go_at_call 27; refine (qT _).mono ?_; rintro e w1 ⟨rfl, hbM⟩; have hcv := HCV.out w1 hbM; have hsM := hbM.size) | (go_at_call 43; refine (qN _).mono ?_; rintro e w1 ⟨rfl, hb⟩; have hsz := hb.size; (try simp at hsz)))
            go_ret
            exact ⟨rfl, (hbo.trans (hbM.mono hws)).trans (hb.mono (by omega))⟩

theorem cmn_step (s : ByteArray) (q p N : Nat) (hp : p < N) : cmn s (N - p) q p = if byt s q = byt s p then (if p + 1 < N then 1 + cmn s (N - (p + 1)) (q + 1) (p + 1) else 1) else 0 := by
  obtain ⟨g, hg⟩ : ∃ g, N - p = g + 1 := ⟨N - p - 1, by omega⟩
  rw [hg]
  simp only [cmn]
  split
  · by_cases h : p + 1 < N
    · rw [if_pos h, show N - (p + 1) = g by omega]
    · rw [if_neg h, show g = 0 by omega]
      rfl
  · rfl
set_option maxRecDepth 100000 in
set_option maxHeartbeats 8000000 in
theorem windowSteps_3 (s : ByteArray) (q0 p0 b : Int) (w : World) (N p1 q1 p2 : Nat) (hz : s.size = N) (hN : N ≤ 200) (h2 : 2 < N) (hp1 : p1 + 1 < N) (hq1 : q1 < p1 + 1) (hp2 : p2 ≤ N)
    (qP : ∀ w, Calls Try.prog 27 #[.int .i64 p0, .int .i64 ((N : Int) - 1)] w fun e' w' => e' = .returned (.int .i64 (p1 : Int)) ∧ Below w.heap.size w w')
    (qQ : ∀ w, Calls Try.prog 27 #[.int .i64 q0, .int .i64 (1 + (p1 : Int))] w fun e' w' => e' = .returned (.int .i64 (q1 : Int)) ∧ Below w.heap.size w w')
    (qT : ∀ w, Calls Try.prog 27 #[.int .i64 (1 + (p1 : Int)), .int .i64 ((N : Int) + 1)] w fun e' w' => e' = .returned (.int .i64 (p2 : Int)) ∧ Below w.heap.size w w') :
    Calls Try.prog 13 #[.string s, .int .i64 q0, .int .i64 p0, .int .u8 b] w fun e' w' => e' = .returned (.bool true) ∧ Below w.heap.size w w' := by
  have g1 : ¬ (200 : Int) < (N : Int) := by omega
  have g2 : (2 : Int) < (N : Int) := by omega
  have hmk : ∀ W, (Instr.makeSlice 67 (.int .i64 (N : Int)) (.int .i64 (N : Int))).run Try.prog W = _ := fun W => mk_bytes N (by omega) W
  have hq : q1 < s.size := by omega
  have hp : 1 + p1 < s.size := by omega
  obtain ⟨c, hc⟩ : ∃ c : Nat, (s[q1]'hq).toNat = c := ⟨_, rfl⟩
  obtain ⟨d, hd⟩ : ∃ d : Nat, (s[1 + p1]'hp).toNat = d := ⟨_, rfl⟩
  have HC := byt_get hq hc
  have HD := byt_get hp hd
  have hst := cmn_step s q1 (p1 + 1) N (by omega)
  rw [show p1 + 1 = 1 + p1 by omega, HC, HD] at hst
  have qC := fun w => wcommon_p s (q1 : Int) (1 + (p1 : Int)) (N : Int) w (by omega)
  have qD := fun w => wcommon_p s ((q1 : Int) + 1) (1 + (p1 : Int) + 1) (N : Int) w (by omega)
  have r1 := wcom_ok s q1 (1 + p1) N (by omega) (by omega) (by omega) (by omega)
  rw [show ((1 + p1 : Nat) : Int) = 1 + (p1 : Int) by omega] at r1
  rw [r1] at qC
  have i0 : (0 : Int) ≤ (q1 : Int) := by omega
  have i1 : (q1 : Int) < (N : Int) := by omega
  have i2 : (0 : Int) ≤ 1 + (p1 : Int) := by omega
  have i3 : 1 + (p1 : Int) < (N : Int) := by omega
  have t1 : (1 + (p1 : Int)).toNat = 1 + p1 := by omega
  clear HC HD r1
  by_cases hcd : c = d
  · have e2 : ((c : Int) == (d : Int)) = true := by simp; omega
    rw [if_pos hcd] at hst
    by_cases hpn : 1 + p1 + 1 < N
    · rw [if_pos hpn] at hst
      have r2 := wcom_ok s (q1 + 1) (1 + p1 + 1) N (by omega) (by omega) (by omega) (by omega)
      rw [show ((1 + p1 + 1 : Nat) : Int) = 1 + (p1 : Int) + 1 by omega, show ((q1 + 1 : Nat) : Int) = (q1 : Int) + 1 by omega] at r2
      rw [r2] at qD
      obtain ⟨n, hn⟩ : ∃ n, cmn s (N - (1 + p1 + 1)) (q1 + 1) (1 + p1 + 1) = n := ⟨_, rfl⟩
      have hnn : n ≤ 200 := by rw [← hn]; have := cmn_le s (N - (1 + p1 + 1)) (q1 + 1) (1 + p1 + 1); omega
      rw [hn] at qD hst
      rw [hst] at qC
      dsimp only at qC qD
      have e5 : (((1 + n : Nat) : Int) != (n : Int) + 1) = false := by simp; omega
      have e6 : 1 + (p1 : Int) + 1 < (N : Int) := by omega
      rw [show ((1 + n : Nat) : Int) = (n : Int) + 1 by omega] at qC
      clear hn r2 hst e5 hcd
      go_enter Try.func13, Try.ntmps13
      go_wp2_with (first | (go_at_call 11; refine (windowKnown_w _).mono ?_; rintro e w1 ⟨rfl, hb⟩; have hsz := hb.size; (try simp at hsz)) | (go_at_call 27; (with_reducible refine (qP _).mono ?_); rintro e w1 ⟨rfl, hb⟩; have hsz := hb.size; (try simp at hsz)) | (go_at_call 27; (with_reducible refine (qQ _).mono ?_); rintro e w1 ⟨rfl, hb⟩; have hsz := hb.size; (try simp at hsz)) | (go_at_call 47; (with_reducible refine (qC _).mono ?_); rintro e w1 ⟨rfl, hb⟩; have hsz := hb.size; (try simp at hsz)) | (go_at_call 47; (with_reducible refine (qD _).mono ?_); rintro e w1 ⟨rfl, hb⟩; have hsz := hb.size; (try simp at hsz)))
      go_quiet (fail)
      go_wp2_with (first | (go_at_call 11; refine (windowKnown_w _).mono ?_; rintro e w1 ⟨rfl, hb⟩; have hsz := hb.size; (try simp at hsz)) | (go_at_call 27; (with_reducible refine (qP _).mono ?_); rintro e w1 ⟨rfl, hb⟩; have hsz := hb.size; (try simp at hsz)) | (go_at_call 27; (with_reducible refine (qQ _).mono ?_); rintro e w1 ⟨rfl, hb⟩; have hsz := hb.size; (try simp at hsz)) | (go_at_call 47; (with_reducible refine (qC _).mono ?_); rintro e w1 ⟨rfl, hb⟩; have hsz := hb.size; (try simp at hsz)) | (go_at_call 47; (with_reducible refine (qD _).mono ?_); rintro e w1 ⟨rfl, hb⟩; have hsz := hb.size; (try simp at hsz)))
      clear hmk qC qD qP qQ
      obtain ⟨B, hB⟩ : ∃ B, w1.heap.size = B := ⟨_, rfl⟩
      have hBk := Blk.new w1 5 (madeCells #[.int .u8 0] N)
      have hBb : Below w.heap.size w (w1.alloc (.cells (madeCells #[.int .u8 0] N) 5)) := by repeat' (first | exact Below.refl _ _ | refine Below.drew ?_ | refine below_drewN ?_ _ | refine Below.alloc ?_ (by first | omega | (simp <;> omega)) _ | refine Below.setCell ?_ (by first | omega | (simp <;> omega)) _ | refine Below.trans ?_ (Below.mono (by assumption) (by first | omega | (simp <;> omega))))
      have hBl : w.heap.size ≤ B := by omega
      have hBlen : (madeCells #[.int .u8 0] N).toList.length = N := by rw [toList_madeCells_one]; simp
      rw [hB] at hBk ⊢
      clear hsz hb
      go_loopw [16] (fun v wr => ∃ (k : Nat) (vs : List Value), v = .int .i64 (k : Int) ∧ k ≤ N ∧ Blk wr B 5 vs ∧ Hid (vs.length = N) ∧ Hid (∀ i, i < k → vs[i]? = some (.int .u8 b)) ∧ Below w.heap.size w wr) (fun v _ => N - (intOf v).toNat)
      case atStart => exact ⟨0, _, rfl, by omega, hBk, Lib.hid hBlen, Lib.hid (fun i hi => by omega), hBb⟩
      case round =>
        clear hBk hBb hBlen hB
        obtain ⟨k, vs, rfl, hk, hbk, HL, HV, hbo⟩ := hrel
        by_cases hlt : k < N
        · have g3 := hbk.cell k
          have hkl : k < vs.length := by rw [HL.out]; exact hlt
          obtain ⟨u, hu⟩ : ∃ u, vs[k]? = some u := ⟨vs[k], List.getElem?_eq_getElem hkl⟩
          rw [hu] at g3
          have g4 := hbk.frozen k
          have i1 : (k : Int) < (N : Int) := by omega
          have i0 : (0 : Int) ≤ (k : Int) := by omega
          have HU := Lib.hid hu
          clear hu hkl
          go_wp2
          go_roundw
          case rel =>
            refine ⟨k + 1, _, by go_num, by omega, hbk.set k _, ?_, ?_, hbo.setCell (by simp; omega) _⟩
            · have := HL.out
              exact Lib.hid (by rw [List.length_set]; exact this)
            · refine Lib.hid (fun i hi => ?_)
              rw [List.getElem?_set]
              by_cases hik : k = i
              · subst hik
                rw [if_pos rfl, if_pos (by rw [HL.out]; exact hlt)]
              · rw [if_neg hik]
                exact HV.out i (by omega)
          case measure => go_light; simp [intOf] <;> omega
        · obtain rfl : k = N := by omega
          have hws := hbo.size
          have hrow := Row.of_fill hbk HL.out HV.out
          obtain ⟨S, hS⟩ : ∃ S, strOfNums (List.replicate k b) = S := ⟨_, rfl⟩
          obtain ⟨hS1, hS2⟩ := same_bytes k b
          rw [hS] at hS1 hS2
          have qN := fun w => near_p S (p2 : Int) (k : Int) 10 w (by omega)
          rw [near_val S p2 k hS1 (by omega) (by omega) hS2] at qN
          have hcv : ∀ w1, Below wr.heap.size wr w1 → (convert 67 9 (.slice (some ⟨B, 0, none⟩) k k)).run Try.prog w1 = .ok (.string S) w1 := by
            intro w1 hb1
            have hr1 := hrow.later hb1
            have hcell : ∀ i, i < k → w1.cell? ⟨B, 0 + i, none⟩ = some (.int .u8 ((List.replicate k b).getD i 0)) := by
              rcases hr1 with h | ⟨b1, o1, h1, _, h3⟩
              · intro i hi
                have := congrArg List.length h
                simp at this
                omega
              · cases h1
                intro i hi
                exact h3 i (by simpa using hi)
            have := run_convert_bytes_arg (P := Try.prog) w1 67 5 Try.underlying67 Try.underlying5 B 0 k k (List.replicate k b) (by simp) hcell 9 Try.underlying9
            rw [hS] at this
            exact this
          have HCV := Lib.hid hcv
          clear hrow hS hS1 hS2 hcv hBl
          by_cases hit : 0 < p2 ∧ 4 ≤ k - p2
          · obtain ⟨t1, t2⟩ := hit
            rw [if_pos ⟨t1, t2⟩] at qN
            have j1 : (0 : Int) < (p2 : Int) := by omega
            have j2 : (4 : Int) ≤ (k : Int) - (p2 : Int) := by omega
            dsimp only at qN
            go_wp2_with (first | (go_at_call 27; refine (qT _).mono ?_; rintro e w1 ⟨rfl, hbM⟩; have hcv := HCV.out w1 hbM; have hsM := hbM.size) | (go_at_call 43; refine (qN _).mono ?_; rintro e w1 ⟨rfl, hb⟩; have hsz := hb.size; (try simp at hsz)))
            go_ret
            exact ⟨rfl, (hbo.trans (hbM.mono hws)).trans (hb.mono (by omega))⟩
          · rw [if_neg hit] at qN
            dsimp only at qN
            have hit2 : p2 = 0 ∨ (0 < p2 ∧ ¬ (4 : Int) ≤ (k : Int) - (p2 : Int)) := by omega
            clear hit
            rcases hit2 with j1 | ⟨j1, j2⟩
            · subst j1
              go_wp2_with (first | (go_at_call 27; refine (qT _).mono ?_; rintro e w1 ⟨rfl, hbM⟩; have hcv := HCV.out w1 hbM; have hsM := hbM.size) | (go_at_call 43; refine (qN _).mono ?_; rintro e w1 ⟨rfl, hb⟩; have hsz := hb.size; (try simp at hsz)))
              go_ret
              exact ⟨rfl, (hbo.trans (hbM.mono hws)).trans (hb.mono (by omega))⟩
            · have j3 : (0 : Int) < (p2 : Int) := by omega
              go_wp2_with (first | (go_at_call 27; refine (qT _).mono ?_; rintro e w1 ⟨rfl, hbM⟩; have hcv := HCV.out w1 hbM; have hsM := hbM.size) | (go_at_call 43; refine (qN _).mono ?_; rintro e w1 ⟨rfl, hb⟩; have hsz := hb.size; (try simp at hsz)))
              go_ret
              exact ⟨rfl, (hbo.trans (hbM.mono hws)).trans (hb.mono (by omega))⟩

    · rw [if_neg hpn] at hst
      rw [hst] at qC
      dsimp only at qC
      have e6 : ¬ 1 + (p1 : Int) + 1 < (N : Int) := by omega
      clear hst hcd
      go_enter Try.func13, Try.ntmps13
      go_wp2_with (first | (go_at_call 11; refine (windowKnown_w _).mono ?_; rintro e w1 ⟨rfl, hb⟩; have hsz := hb.size; (try simp at hsz)) | (go_at_call 27; (with_reducible refine (qP _).mono ?_); rintro e w1 ⟨rfl, hb⟩; have hsz := hb.size; (try simp at hsz)) | (go_at_call 27; (with_reducible refine (qQ _).mono ?_); rintro e w1 ⟨rfl, hb⟩; have hsz := hb.size; (try simp at hsz)) | (go_at_call 47; (with_reducible refine (qC _).mono ?_); rintro e w1 ⟨rfl, hb⟩; have hsz := hb.size; (try simp at hsz)) | (go_at_call 47; (with_reducible refine (qD _).mono ?_); rintro e w1 ⟨rfl, hb⟩; have hsz := hb.size; (try simp at hsz)))
      go_quiet (fail)
      go_wp2_with (first | (go_at_call 11; refine (windowKnown_w _).mono ?_; rintro e w1 ⟨rfl, hb⟩; have hsz := hb.size; (try simp at hsz)) | (go_at_call 27; (with_reducible refine (qP _).mono ?_); rintro e w1 ⟨rfl, hb⟩; have hsz := hb.size; (try simp at hsz)) | (go_at_call 27; (with_reducible refine (qQ _).mono ?_); rintro e w1 ⟨rfl, hb⟩; have hsz := hb.size; (try simp at hsz)) | (go_at_call 47; (with_reducible refine (qC _).mono ?_); rintro e w1 ⟨rfl, hb⟩; have hsz := hb.size; (try simp at hsz)) | (go_at_call 47; (with_reducible refine (qD _).mono ?_); rintro e w1 ⟨rfl, hb⟩; have hsz := hb.size; (try simp at hsz)))
      clear hmk qC qD qP qQ
      obtain ⟨B, hB⟩ : ∃ B, w1.heap.size = B := ⟨_, rfl⟩
      have hBk : Blk ((w1.drewN nq).alloc (.cells (madeCells #[.int .u8 0] N) 5)) w1.heap.size 5 (madeCells #[.int .u8 0] N).toList := Blk.new (w1.drewN nq) 5 (madeCells #[.int .u8 0] N)
      have hBb : Below w.heap.size w ((w1.drewN nq).alloc (.cells (madeCells #[.int .u8 0] N) 5)) := by repeat' (first | exact Below.refl _ _ | refine Below.drew ?_ | refine below_drewN ?_ _ | refine Below.alloc ?_ (by first | omega | (simp <;> omega)) _ | refine Below.setCell ?_ (by first | omega | (simp <;> omega)) _ | refine Below.trans ?_ (Below.mono (by assumption) (by first | omega | (simp <;> omega))))
      have hBl : w.heap.size ≤ B := by omega
      have hBlen : (madeCells #[.int .u8 0] N).toList.length = N := by rw [toList_madeCells_one]; simp
      rw [hB] at hBk ⊢
      clear hsz hb
      go_loopw [16] (fun v wr => ∃ (k : Nat) (vs : List Value), v = .int .i64 (k : Int) ∧ k ≤ N ∧ Blk wr B 5 vs ∧ Hid (vs.length = N) ∧ Hid (∀ i, i < k → vs[i]? = some (.int .u8 b)) ∧ Below w.heap.size w wr) (fun v _ => N - (intOf v).toNat)
      case atStart => exact ⟨0, _, rfl, by omega, hBk, Lib.hid hBlen, Lib.hid (fun i hi => by omega), hBb⟩
      case round =>
        clear hBk hBb hBlen hB
        obtain ⟨k, vs, rfl, hk, hbk, HL, HV, hbo⟩ := hrel
        by_cases hlt : k < N
        · have g3 := hbk.cell k
          have hkl : k < vs.length := by rw [HL.out]; exact hlt
          obtain ⟨u, hu⟩ : ∃ u, vs[k]? = some u := ⟨vs[k], List.getElem?_eq_getElem hkl⟩
          rw [hu] at g3
          have g4 := hbk.frozen k
          have i1 : (k : Int) < (N : Int) := by omega
          have i0 : (0 : Int) ≤ (k : Int) := by omega
          have HU := Lib.hid hu
          clear hu hkl
          go_wp2
          go_roundw
          case rel =>
            refine ⟨k + 1, _, by go_num, by omega, hbk.set k _, ?_, ?_, hbo.setCell (by simp; omega) _⟩
            · have := HL.out
              exact Lib.hid (by rw [List.length_set]; exact this)
            · refine Lib.hid (fun i hi => ?_)
              rw [List.getElem?_set]
              by_cases hik : k = i
              · subst hik
                rw [if_pos rfl, if_pos (by rw [HL.out]; exact hlt)]
              · rw [if_neg hik]
                exact HV.out i (by omega)
          case measure => go_light; simp [intOf] <;> omega
        · obtain rfl : k = N := by omega
          have hws := hbo.size
          have hrow := Row.of_fill hbk HL.out HV.out
          obtain ⟨S, hS⟩ : ∃ S, strOfNums (List.replicate k b) = S := ⟨_, rfl⟩
          obtain ⟨hS1, hS2⟩ := same_bytes k b
          rw [hS] at hS1 hS2
          have qN := fun w => near_p S (p2 : Int) (k : Int) 10 w (by omega)
          rw [near_val S p2 k hS1 (by omega) (by omega) hS2] at qN
          have hcv : ∀ w1, Below wr.heap.size wr w1 → (convert 67 9 (.slice (some ⟨B, 0, none⟩) k k)).run Try.prog w1 = .ok (.string S) w1 := by
            intro w1 hb1
            have hr1 := hrow.later hb1
            have hcell : ∀ i, i < k → w1.cell? ⟨B, 0 + i, none⟩ = some (.int .u8 ((List.replicate k b).getD i 0)) := by
              rcases hr1 with h | ⟨b1, o1, h1, _, h3⟩
              · intro i hi
                have := congrArg List.length h
                simp at this
                omega
              · cases h1
                intro i hi
                exact h3 i (by simpa using hi)
            have := run_convert_bytes_arg (P := Try.prog) w1 67 5 Try.underlying67 Try.underlying5 B 0 k k (List.replicate k b) (by simp) hcell 9 Try.underlying9
            rw [hS] at this
            exact this
          have HCV := Lib.hid hcv
          clear hrow hS hS1 hS2 hcv hBl
          by_cases hit : 0 < p2 ∧ 4 ≤ k - p2
          · obtain ⟨t1, t2⟩ := hit
            rw [if_pos ⟨t1, t2⟩] at qN
            have j1 : (0 : Int) < (p2 : Int) := by omega
            have j2 : (4 : Int) ≤ (k : Int) - (p2 : Int) := by omega
            dsimp only at qN
            go_wp2_with (first | (go_at_call 27; refine (qT _).mono ?_; rintro e w1 ⟨rfl, hbM⟩; have hcv := HCV.out w1 hbM; have hsM := hbM.size) | (go_at_call 43; refine (qN _).mono ?_; rintro e w1 ⟨rfl, hb⟩; have hsz := hb.size; (try simp at hsz)))
            go_ret
            exact ⟨rfl, (hbo.trans (hbM.mono hws)).trans (hb.mono (by omega))⟩
          · rw [if_neg hit] at qN
            dsimp only at qN
            have hit2 : p2 = 0 ∨ (0 < p2 ∧ ¬ (4 : Int) ≤ (k : Int) - (p2 : Int)) := by omega
            clear hit
            rcases hit2 with j1 | ⟨j1, j2⟩
            · subst j1
              go_wp2_with (first | (go_at_call 27; refine (qT _).mono ?_; rintro e w1 ⟨rfl, hbM⟩; have hcv := HCV.out w1 hbM; have hsM := hbM.size) | (go_at_call 43; refine (qN _).mono ?_; rintro e w1 ⟨rfl, hb⟩; have hsz := hb.size; (try simp at hsz)))
              go_ret
              exact ⟨rfl, (hbo.trans (hbM.mono hws)).trans (hb.mono (by omega))⟩
            · have j3 : (0 : Int) < (p2 : Int) := by omega
              go_wp2_with (first | (go_at_call 27; refine (qT _).mono ?_; rintro e w1 ⟨rfl, hbM⟩; have hcv := HCV.out w1 hbM; have hsM := hbM.size) | (go_at_call 43; refine (qN _).mono ?_; rintro e w1 ⟨rfl, hb⟩; have hsz := hb.size; (try simp at hsz)))
              go_ret
              exact ⟨rfl, (hbo.trans (hbM.mono hws)).trans (hb.mono (by omega))⟩

  · have e2 : ((c : Int) == (d : Int)) = false := by simp; omega
    rw [if_neg hcd] at hst
    rw [hst] at qC
    dsimp only at qC
    clear hst hcd
    go_enter Try.func13, Try.ntmps13
    go_wp2_with (first | (go_at_call 11; refine (windowKnown_w _).mono ?_; rintro e w1 ⟨rfl, hb⟩; have hsz := hb.size; (try simp at hsz)) | (go_at_call 27; (with_reducible refine (qP _).mono ?_); rintro e w1 ⟨rfl, hb⟩; have hsz := hb.size; (try simp at hsz)) | (go_at_call 27; (with_reducible refine (qQ _).mono ?_); rintro e w1 ⟨rfl, hb⟩; have hsz := hb.size; (try simp at hsz)) | (go_at_call 47; (with_reducible refine (qC _).mono ?_); rintro e w1 ⟨rfl, hb⟩; have hsz := hb.size; (try simp at hsz)) | (go_at_call 47; (with_reducible refine (qD _).mono ?_); rintro e w1 ⟨rfl, hb⟩; have hsz := hb.size; (try simp at hsz)))
    go_quiet (fail)
    go_wp2_with (first | (go_at_call 11; refine (windowKnown_w _).mono ?_; rintro e w1 ⟨rfl, hb⟩; have hsz := hb.size; (try simp at hsz)) | (go_at_call 27; (with_reducible refine (qP _).mono ?_); rintro e w1 ⟨rfl, hb⟩; have hsz := hb.size; (try simp at hsz)) | (go_at_call 27; (with_reducible refine (qQ _).mono ?_); rintro e w1 ⟨rfl, hb⟩; have hsz := hb.size; (try simp at hsz)) | (go_at_call 47; (with_reducible refine (qC _).mono ?_); rintro e w1 ⟨rfl, hb⟩; have hsz := hb.size; (try simp at hsz)) | (go_at_call 47; (with_reducible refine (qD _).mono ?_); rintro e w1 ⟨rfl, hb⟩; have hsz := hb.size; (try simp at hsz)))
    clear hmk qC qD qP qQ
    obtain ⟨B, hB⟩ : ∃ B, w1.heap.size = B := ⟨_, rfl⟩
    have hBk : Blk ((w1.drewN nq).alloc (.cells (madeCells #[.int .u8 0] N) 5)) w1.heap.size 5 (madeCells #[.int .u8 0] N).toList := Blk.new (w1.drewN nq) 5 (madeCells #[.int .u8 0] N)
    have hBb : Below w.heap.size w ((w1.drewN nq).alloc (.cells (madeCells #[.int .u8 0] N) 5)) := by repeat' (first | exact Below.refl _ _ | refine Below.drew ?_ | refine below_drewN ?_ _ | refine Below.alloc ?_ (by first | omega | (simp <;> omega)) _ | refine Below.setCell ?_ (by first | omega | (simp <;> omega)) _ | refine Below.trans ?_ (Below.mono (by assumption) (by first | omega | (simp <;> omega))))
    have hBl : w.heap.size ≤ B := by omega
    have hBlen : (madeCells #[.int .u8 0] N).toList.length = N := by rw [toList_madeCells_one]; simp
    rw [hB] at hBk ⊢
    clear hsz hb
    go_loopw [16] (fun v wr => ∃ (k : Nat) (vs : List Value), v = .int .i64 (k : Int) ∧ k ≤ N ∧ Blk wr B 5 vs ∧ Hid (vs.length = N) ∧ Hid (∀ i, i < k → vs[i]? = some (.int .u8 b)) ∧ Below w.heap.size w wr) (fun v _ => N - (intOf v).toNat)
    case atStart => exact ⟨0, _, rfl, by omega, hBk, Lib.hid hBlen, Lib.hid (fun i hi => by omega), hBb⟩
    case round =>
      clear hBk hBb hBlen hB
      obtain ⟨k, vs, rfl, hk, hbk, HL, HV, hbo⟩ := hrel
      by_cases hlt : k < N
      · have g3 := hbk.cell k
        have hkl : k < vs.length := by rw [HL.out]; exact hlt
        obtain ⟨u, hu⟩ : ∃ u, vs[k]? = some u := ⟨vs[k], List.getElem?_eq_getElem hkl⟩
        rw [hu] at g3
        have g4 := hbk.frozen k
        have i1 : (k : Int) < (N : Int) := by omega
        have i0 : (0 : Int) ≤ (k : Int) := by omega
        have HU := Lib.hid hu
        clear hu hkl
        go_wp2
        go_roundw
        case rel =>
          refine ⟨k + 1, _, by go_num, by omega, hbk.set k _, ?_, ?_, hbo.setCell (by simp; omega) _⟩
          · have := HL.out
            exact Lib.hid (by rw [List.length_set]; exact this)
          · refine Lib.hid (fun i hi => ?_)
            rw [List.getElem?_set]
            by_cases hik : k = i
            · subst hik
              rw [if_pos rfl, if_pos (by rw [HL.out]; exact hlt)]
            · rw [if_neg hik]
              exact HV.out i (by omega)
        case measure => go_light; simp [intOf] <;> omega
      · obtain rfl : k = N := by omega
        have hws := hbo.size
        have hrow := Row.of_fill hbk HL.out HV.out
        obtain ⟨S, hS⟩ : ∃ S, strOfNums (List.replicate k b) = S := ⟨_, rfl⟩
        obtain ⟨hS1, hS2⟩ := same_bytes k b
        rw [hS] at hS1 hS2
        have qN := fun w => near_p S (p2 : Int) (k : Int) 10 w (by omega)
        rw [near_val S p2 k hS1 (by omega) (by omega) hS2] at qN
        have hcv : ∀ w1, Below wr.heap.size wr w1 → (convert 67 9 (.slice (some ⟨B, 0, none⟩) k k)).run Try.prog w1 = .ok (.string S) w1 := by
          intro w1 hb1
          have hr1 := hrow.later hb1
          have hcell : ∀ i, i < k → w1.cell? ⟨B, 0 + i, none⟩ = some (.int .u8 ((List.replicate k b).getD i 0)) := by
            rcases hr1 with h | ⟨b1, o1, h1, _, h3⟩
            · intro i hi
              have := congrArg List.length h
              simp at this
              omega
            · cases h1
              intro i hi
              exact h3 i (by simpa using hi)
          have := run_convert_bytes_arg (P := Try.prog) w1 67 5 Try.underlying67 Try.underlying5 B 0 k k (List.replicate k b) (by simp) hcell 9 Try.underlying9
          rw [hS] at this
          exact this
        have HCV := Lib.hid hcv
        clear hrow hS hS1 hS2 hcv hBl
        by_cases hit : 0 < p2 ∧ 4 ≤ k - p2
        · obtain ⟨t1, t2⟩ := hit
          rw [if_pos ⟨t1, t2⟩] at qN
          have j1 : (0 : Int) < (p2 : Int) := by omega
          have j2 : (4 : Int) ≤ (k : Int) - (p2 : Int) := by omega
          dsimp only at qN
          go_wp2_with (first | (go_at_call 27; refine (qT _).mono ?_; rintro e w1 ⟨rfl, hbM⟩; have hcv := HCV.out w1 hbM; have hsM := hbM.size) | (go_at_call 43; refine (qN _).mono ?_; rintro e w1 ⟨rfl, hb⟩; have hsz := hb.size; (try simp at hsz)))
          go_ret
          exact ⟨rfl, (hbo.trans (hbM.mono hws)).trans (hb.mono (by omega))⟩
        · rw [if_neg hit] at qN
          dsimp only at qN
          have hit2 : p2 = 0 ∨ (0 < p2 ∧ ¬ (4 : Int) ≤ (k : Int) - (p2 : Int)) := by omega
          clear hit
          rcases hit2 with j1 | ⟨j1, j2⟩
          · subst j1
            go_wp2_with (first | (go_at_call 27; refine (qT _).mono ?_; rintro e w1 ⟨rfl, hbM⟩; have hcv := HCV.out w1 hbM; have hsM := hbM.size) | (go_at_call 43; refine (qN _).mono ?_; rintro e w1 ⟨rfl, hb⟩; have hsz := hb.size; (try simp at hsz)))
            go_ret
            exact ⟨rfl, (hbo.trans (hbM.mono hws)).trans (hb.mono (by omega))⟩
          · have j3 : (0 : Int) < (p2 : Int) := by omega
            go_wp2_with (first | (go_at_call 27; refine (qT _).mono ?_; rintro e w1 ⟨rfl, hbM⟩; have hcv := HCV.out w1 hbM; have hsM := hbM.size) | (go_at_call 43; refine (qN _).mono ?_; rintro e w1 ⟨rfl, hb⟩; have hsz := hb.size; (try simp at hsz)))
            go_ret
            exact ⟨rfl, (hbo.trans (hbM.mono hws)).trans (hb.mono (by omega))⟩

theorem windowSteps_w (s : ByteArray) (q0 p0 b : Int) (w : World) (hs : s.size ≤ 9223372036854775807) :
    Calls Try.prog 13 #[.string s, .int .i64 q0, .int .i64 p0, .int .u8 b] w fun e' w' => e' = .returned (.bool true) ∧ Below w.heap.size w w' := by
  by_cases g1 : (200 : Int) < (s.size : Int)
  · skip
    go_enter Try.func13, Try.ntmps13
    go_wp2_with ((go_at_call 11; refine (windowKnown_w _).mono ?_; rintro e w1 ⟨rfl, hb⟩; have hsz := hb.size; (try simp at hsz)))
    repeat' (first | (go_region <;> go_wp2_with ((go_at_call 11; refine (windowKnown_w _).mono ?_; rintro e w1 ⟨rfl, hb⟩; have hsz := hb.size; (try simp at hsz)))))
    all_goals go_light
    all_goals (try simp only [beq_iff_eq, beq_eq_false_iff_ne, bne_iff_ne, bne_eq_false_iff_eq, ne_eq] at *)
    all_goals
      refine bodyPost_ret (v := .bool true) (by simp [results, Try.results13, go_sem, *]) rfl ⟨rfl, ?_⟩
      repeat' (first | exact Below.refl _ _ | refine Below.drew ?_ | refine below_drewN ?_ _ | refine Below.alloc ?_ (by first | omega | (simp <;> omega)) _ | refine Below.setCell ?_ (by first | omega | (simp <;> omega)) _ | refine Below.trans ?_ (Below.mono (by assumption) (by first | omega | (simp <;> omega))))
  · by_cases g2 : s.size ≤ 2
    · obtain ⟨p2, h1, h2⟩ := modN p0 (s.size + 1) (by omega)
      exact windowSteps_2 s q0 p0 b w s.size p2 rfl g2 (by omega) (mod_n p0 (s.size + 1) p2 h1 (by omega) (by omega))
    · obtain ⟨p1, h1, h2⟩ := modN p0 (s.size - 1) (by omega)
      obtain ⟨q1, h3, h4⟩ := modN q0 (1 + p1) (by omega)
      obtain ⟨p2, h5, h6⟩ := modN (1 + (p1 : Int)) (s.size + 1) (by omega)
      have m1 := mod_n p0 (s.size - 1) p1 h1 (by omega) (by omega)
      rw [show ((s.size - 1 : Nat) : Int) = (s.size : Int) - 1 by omega] at m1
      have m2 := mod_n q0 (1 + p1) q1 h3 (by omega) (by omega)
      rw [show ((1 + p1 : Nat) : Int) = 1 + (p1 : Int) by omega] at m2
      exact windowSteps_3 s q0 p0 b w s.size p1 q1 p2 rfl (by omega) (by omega) (by omega) (by omega) (by omega) m1 m2 (mod_n (1 + (p1 : Int)) (s.size + 1) p2 h5 (by omega) (by omega))
end Go.Proofs.Ytenhglamnpmkaaa
