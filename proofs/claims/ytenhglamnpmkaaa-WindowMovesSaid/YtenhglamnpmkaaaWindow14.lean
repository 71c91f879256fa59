/-
  WindowMoves, walked.
-/
import Derived.Test.YtenhglamnpmkaaaRows
import Derived.Test.YtenhglamnpmkaaaWindow12
import Derived.WalkMore
import Derived.Test.YtenhglamnpmkaaaCommon
import Derived.Deep.Light
import Derived.Shelf.Abstract
import Derived.Shelf.RegionOpen
import Derived.OwnWalkIn
import Derived.TacticsInMore
import Derived.LoopNIn
import Derived.LoopIn
namespace Go.Proofs.Ytenhglamnpmkaaa
open Go.RowKit
set_option linter.unusedSimpArgs false
set_option linter.unusedVariables false
attribute [local go_sem] Oper.semAt_some

theorem toList_app (a b : ByteArray) : (a ++ b).data.toList = a.data.toList ++ b.data.toList := by simp
theorem byt_app_l (a b : ByteArray) (i : Nat) (h : i < a.size) : byt (a ++ b) i = byt a i := by
  have h2 : i < a.data.toList.length := by simpa using h
  rw [byt_eq, byt_eq, toList_app, List.getD_eq_getElem?_getD, List.getD_eq_getElem?_getD, List.getElem?_append_left h2]
theorem byt_app_r (a b : ByteArray) (i : Nat) : byt (a ++ b) (a.size + i) = byt b i := by
  have h2 : a.data.toList.length = a.size := by simp
  rw [byt_eq, byt_eq, toList_app, List.getD_eq_getElem?_getD, List.getD_eq_getElem?_getD, List.getElem?_append_right (by omega), h2, show a.size + i - a.size = i by omega]
theorem byt_ext (a : ByteArray) (e i : Nat) (h : i < e) : byt (a.extract 0 e) i = byt a i := by
  rw [byt_eq, byt_eq]
  simp only [ByteArray.data_extract, Array.toList_extract]
  simp only [List.getD_eq_getElem?_getD]
  simp [List.getElem?_take, h]
theorem far_spec (A r : List Nat) (d : Nat) (hr : ∀ x ∈ r, x < d) (F : List Nat) (hF : F = (A.map (d + ·) ++ r).take 64) : (A.take 64).length ≤ F.length ∧ ∀ i, i < F.length → (i < (A.take 64).length → F.getD i 0 = d + (A.take 64).getD i 0) ∧ ((A.take 64).length ≤ i → F.getD i 0 < d) := by
  subst hF
  simp only [List.length_take, List.length_append, List.length_map]
  refine ⟨by omega, fun i hi => ⟨fun h => ?_, fun h => ?_⟩⟩
  · rw [List.getD_eq_getElem?_getD, List.getD_eq_getElem?_getD, List.getElem?_take, List.getElem?_take, if_pos (by omega), if_pos (by omega), List.getElem?_append_left (by simp; omega), List.getElem?_map, List.getElem?_eq_getElem (by omega)]
    rfl
  · rw [List.getD_eq_getElem?_getD, List.getElem?_take, if_pos (by omega), List.getElem?_append_right (by simp; omega), List.length_map, List.getElem?_eq_getElem (by omega)]
    exact hr _ (List.getElem_mem _)
set_option maxRecDepth 100000 in
set_option maxHeartbeats 4000000 in
theorem windowMoves_1 (s m : ByteArray) (p0 e0 : Int) (p e N d FL : Nat) (XL XF : List Int) (w : World) (hs : s.size ≤ 100) (hd : m.size = d) (hm : d ≤ 100) (hpe : p ≤ e) (hes : e ≤ s.size)
    (HN : Hid (XL.length = N)) (HF : Hid (XF.length = FL)) (hN : N ≤ 64) (hNF : N ≤ FL) (HS : Hid (∀ i, i < FL → (i < N → XF.getD i 0 = XL.getD i 0 + (d : Int)) ∧ (N ≤ i → XF.getD i 0 < (d : Int)))) (HB : Hid (∀ i, i < N → 0 ≤ XL.getD i 0 ∧ XL.getD i 0 ≤ 1000)) (hFL : FL ≤ 64)
    (qE : ∀ w, Calls Try.prog 27 #[.int .i64 e0, .int .i64 ((s.size : Int) + 1)] w fun e' w' => e' = .returned (.int .i64 (e : Int)) ∧ Below w.heap.size w w')
    (qP : ∀ w, Calls Try.prog 27 #[.int .i64 p0, .int .i64 ((e : Int) + 1)] w fun e' w' => e' = .returned (.int .i64 (p : Int)) ∧ Below w.heap.size w w')
    (q1 : ∀ w, Calls Try.prog 41 #[.string s, .int .i64 (p : Int), .int .i64 (e : Int), .int .i64 10, .int .i64 64] w fun e' w' => ∃ pa ca, e' = .returned (.tuple #[.slice pa N ca, .int .i64 0]) ∧ Row .i64 w' pa XL ∧ Below w.heap.size w w')
    (q2 : ∀ w, Calls Try.prog 41 #[.string (s.extract 0 e ++ m), .int .i64 (p : Int), .int .i64 (e : Int), .int .i64 10, .int .i64 64] w fun e' w' => ∃ pa ca, e' = .returned (.tuple #[.slice pa N ca, .int .i64 0]) ∧ Row .i64 w' pa XL ∧ Below w.heap.size w w')
    (q3 : ∀ w, Calls Try.prog 41 #[.string (m ++ s), .int .i64 ((d : Int) + (p : Int)), .int .i64 ((d : Int) + (e : Int)), .int .i64 10, .int .i64 64] w fun e' w' => ∃ pa ca, e' = .returned (.tuple #[.slice pa FL ca, .int .i64 0]) ∧ Row .i64 w' pa XF ∧ Below w.heap.size w w') :
    Calls Try.prog 14 #[.string s, .string m, .int .i64 p0, .int .i64 e0] w fun e' w' => e' = .returned (.bool true) ∧ Below w.heap.size w w' := by
  have g1 : ¬ (100 : Int) < (s.size : Int) := by omega
  have g2 : ¬ (100 : Int) < (d : Int) := by omega
  have g3 : ¬ (FL : Int) < min (64 : Int) (N : Int) := by omega
  have g4 : ¬ (FL : Int) < (N : Int) := by omega
  have i0 : (0 : Int) ≤ (e : Int) := by omega
  have i1 : (e : Int) ≤ (s.size : Int) := by omega
  go_enter Try.func14, Try.ntmps14
  go_wp2_with (first | (go_at_call 11; refine (windowKnown_w _).mono ?_; rintro e w1 ⟨rfl, hb⟩; have hsz := hb.size; (try simp at hsz)) | (go_at_call 27; (with_reducible refine (qE _).mono ?_); rintro e w1 ⟨rfl, hb⟩; have hsz := hb.size; (try simp at hsz)) | (go_at_call 27; (with_reducible refine (qP _).mono ?_); rintro e w1 ⟨rfl, hb⟩; have hsz := hb.size; (try simp at hsz)) | (go_at_call 41; (with_reducible refine (q1 _).mono ?_); rintro e w1 ⟨pA, cA, rfl, hrA, hb⟩; have hsz := hb.size; (try simp at hsz)) | ((go_at_call 41; (with_reducible refine (q2 _).mono ?_); rintro e w1 ⟨pB, cB, rfl, hrB, hb⟩; have hsz := hb.size; (try simp at hsz)); replace hrA := Row.later hrA hb) | ((go_at_call 41; (with_reducible refine (q3 _).mono ?_); rintro e w1 ⟨pC, cC, rfl, hrC, hb⟩; have hsz := hb.size; (try simp at hsz)); replace hrA := Row.later hrA hb; replace hrB := Row.later hrB hb) | ((go_at_call 32; (with_reducible refine (kn_same _ _ XL _ _ _ _ hrA hrB HN.out.symm (by omega)).mono ?_); rintro e w1 ⟨rfl, hb⟩; have hsz := hb.size; (try simp at hsz)); replace hrA := Row.later hrA hb; replace hrC := Row.later hrC hb))
  all_goals
    clear hrB hsz
    go_loopw [17] (fun v wr => ∃ i : Nat, v = .int .i64 (i : Int) ∧ i ≤ FL ∧ Row .i64 wr pA XL ∧ Row .i64 wr pC XF ∧ Below w.heap.size w wr) (fun v _ => FL - (intOf v).toNat)
    case atStart => exact ⟨0, rfl, by omega, hrA, hrC, by repeat' (first | exact Below.refl _ _ | refine Below.drew ?_ | refine below_drewN ?_ _ | refine Below.alloc ?_ (by first | omega | (simp <;> omega)) _ | refine Below.setCell ?_ (by first | omega | (simp <;> omega)) _ | refine Below.trans ?_ (Below.mono (by assumption) (by first | omega | (simp <;> omega))))⟩
    case round =>
      clear hrA hrC hb
      obtain ⟨i, rfl, hi, hrA, hrC, hbo⟩ := hrel
      by_cases hlt : i < FL
      · obtain ⟨s1, s2⟩ := HS.out i hlt
        have HA := Lib.hid hrA
        have HC := Lib.hid hrC
        obtain ⟨b2, o2, rfl, hb2, hc2⟩ := hrC.at (i := i) (by rw [HF.out]; exact hlt)
        have c2 := hc2 i (by rw [HF.out]; exact hlt)
        have j0 : (0 : Int) ≤ (i : Int) := by omega
        have j1 : (i : Int) < (FL : Int) := by omega
        by_cases hiN : i < N
        · obtain ⟨b1, o1, rfl, hb1, hc1⟩ := hrA.at (i := i) (by rw [HN.out]; exact hiN)
          have c1 := hc1 i (by rw [HN.out]; exact hiN)
          obtain ⟨y1, y2⟩ := HB.out i hiN
          rw [s1 hiN] at c2
          obtain ⟨y, hy⟩ : ∃ y, XL.getD i 0 = y := ⟨_, rfl⟩
          rw [hy] at c1 c2 y1 y2
          have d1 : decide (i < N) = true := decide_eq_true hiN
          have d2 : decide ((i : Int) < (N : Int)) = true := decide_eq_true (by omega)
          have d3 : decide (N ≤ i) = false := decide_eq_false (by omega)
          have d4 : decide ((N : Int) ≤ (i : Int)) = false := decide_eq_false (by omega)
          have j2 : (i : Int) < (N : Int) := by omega
          clear hc1 hc2 s1 s2 hrA hrC hy
          go_wp2
          go_quiet (fail)
          go_wp2
          go_roundw
          case rel => exact ⟨i + 1, by go_num, by omega, Row.drewN HA.out _, Row.drewN HC.out _, below_drewN hbo _⟩
          case measure => go_light; simp [intOf] <;> omega
        · have x2 := s2 (by omega)
          obtain ⟨x, hx⟩ : ∃ x, XF.getD i 0 = x := ⟨_, rfl⟩
          rw [hx] at c2 x2
          have d1 : decide (i < N) = false := decide_eq_false hiN
          have d2 : decide ((i : Int) < (N : Int)) = false := decide_eq_false (by omega)
          have d3 : decide (N ≤ i) = true := decide_eq_true (by omega)
          have d4 : decide ((N : Int) ≤ (i : Int)) = true := decide_eq_true (by omega)
          have d5 : decide ((d : Int) ≤ x) = false := decide_eq_false (by omega)
          clear hc2 s1 s2 hrA hrC hx
          go_wp2
          go_quiet (fail)
          go_wp2
          go_roundw
          case rel => exact ⟨i + 1, by go_num, by omega, Row.drewN HA.out _, Row.drewN HC.out _, below_drewN hbo _⟩
          case measure => go_light; simp [intOf] <;> omega
      · go_wp2
        go_ret
        exact ⟨rfl, hbo⟩
theorem backE_lt (s : ByteArray) (p e j : Nat) (hj : j ≤ p) : ∀ x ∈ backE s p e j, x < p := by
  unfold backE
  split
  · simp
  · intro x hx
    unfold back plc at hx
    rw [List.mem_reverse] at hx
    have := (List.mem_filter.1 hx).1
    rw [List.mem_range'] at this
    obtain ⟨i, hi, rfl⟩ := this
    omega
theorem cand_y (s : ByteArray) (p e : Nat) (h1 : s.size ≤ 1000) (h2 : p ≤ e) (h3 : e ≤ s.size) (N : Nat) (X : List Int) (hX : nats ((backE s p e p).take 64) = X) (hN : X.length = N) (w : World) :
    Calls Try.prog 41 #[.string s, .int .i64 (p : Int), .int .i64 (e : Int), .int .i64 10, .int .i64 64] w fun e' w' => ∃ pa ca, e' = .returned (.tuple #[.slice pa N ca, .int .i64 0]) ∧ Row .i64 w' pa X ∧ Below w.heap.size w w' := by
  have r := wcandR_ok s p e 64 (by omega) h2 h3 (by omega)
  rw [cands_all s p e 64 (by omega)] at r
  simp only [Int.cast_ofNat_Int] at r
  have q := cand_x s p e 10 64 w (by omega) X 0 (by rw [r]; exact hX) (by rw [r])
  rw [hN] at q
  refine q.mono ?_
  rintro e' w' ⟨pa, ca, _, h4, h5, h6⟩
  exact ⟨pa, ca, h4, h5, h6⟩
theorem windowMoves_w (s m : ByteArray) (p0 e0 : Int) (w : World) (hs : s.size ≤ 9223372036854775807) (hm : m.size ≤ 9223372036854775807) :
    Calls Try.prog 14 #[.string s, .string m, .int .i64 p0, .int .i64 e0] w fun e' w' => e' = .returned (.bool true) ∧ Below w.heap.size w w' := by
  by_cases g1 : (100 : Int) < (s.size : Int)
  · skip
    go_enter Try.func14, Try.ntmps14
    go_wp2_with ((go_at_call 11; refine (windowKnown_w _).mono ?_; rintro e w1 ⟨rfl, hb⟩; have hsz := hb.size; (try simp at hsz)))
    repeat' (first | (go_region <;> go_wp2_with ((go_at_call 11; refine (windowKnown_w _).mono ?_; rintro e w1 ⟨rfl, hb⟩; have hsz := hb.size; (try simp at hsz)))))
    all_goals go_light
    all_goals (try simp only [beq_iff_eq, beq_eq_false_iff_ne, bne_iff_ne, bne_eq_false_iff_eq, ne_eq] at *)
    all_goals
      refine bodyPost_ret (v := .bool true) (by simp [results, Try.results14, go_sem, *]) rfl ⟨rfl, ?_⟩
      repeat' (first | exact Below.refl _ _ | refine Below.drew ?_ | refine below_drewN ?_ _ | refine Below.alloc ?_ (by first | omega | (simp <;> omega)) _ | refine Below.setCell ?_ (by first | omega | (simp <;> omega)) _ | refine Below.trans ?_ (Below.mono (by assumption) (by first | omega | (simp <;> omega))))
  · by_cases g2 : (100 : Int) < (m.size : Int)
    · skip
      go_enter Try.func14, Try.ntmps14
      go_wp2_with ((go_at_call 11; refine (windowKnown_w _).mono ?_; rintro e w1 ⟨rfl, hb⟩; have hsz := hb.size; (try simp at hsz)))
      repeat' (first | (go_region <;> go_wp2_with ((go_at_call 11; refine (windowKnown_w _).mono ?_; rintro e w1 ⟨rfl, hb⟩; have hsz := hb.size; (try simp at hsz)))))
      all_goals go_light
      all_goals (try simp only [beq_iff_eq, beq_eq_false_iff_ne, bne_iff_ne, bne_eq_false_iff_eq, ne_eq] at *)
      all_goals
        refine bodyPost_ret (v := .bool true) (by simp [results, Try.results14, go_sem, *]) rfl ⟨rfl, ?_⟩
        repeat' (first | exact Below.refl _ _ | refine Below.drew ?_ | refine below_drewN ?_ _ | refine Below.alloc ?_ (by first | omega | (simp <;> omega)) _ | refine Below.setCell ?_ (by first | omega | (simp <;> omega)) _ | refine Below.trans ?_ (Below.mono (by assumption) (by first | omega | (simp <;> omega))))
    · obtain ⟨e, he, he2⟩ := modN e0 (s.size + 1) (by omega)
      obtain ⟨p, hp, hp2⟩ := modN p0 (e + 1) (by omega)
      have hz1 : (s.extract 0 e ++ m).size = e + m.size := by simp; omega
      have hz2 : (m ++ s).size = m.size + s.size := by simp
      have e1 := backE_cut s (s.extract 0 e ++ m) p e (fun i hi => by rw [byt_app_l _ _ _ (by simp; omega), byt_ext _ _ _ hi])
      obtain ⟨r, e2, hr⟩ := backE_far s (m ++ s) m.size p e (fun i hi => byt_app_r m s i)
      obtain ⟨f1, f2⟩ := far_spec (backE s p e p) r m.size hr ((backE (m ++ s) (m.size + p) (m.size + e) (m.size + p)).take 64) (by rw [e2])
      have k1 := cand_y s p e (by omega) (by omega) (by omega) _ _ rfl rfl
      have k2 := cand_y (s.extract 0 e ++ m) p e (by omega) (by omega) (by omega) (nats ((backE s p e p).take 64)).length (nats ((backE s p e p).take 64)) (by rw [e1]) rfl
      have k3 := cand_y (m ++ s) (m.size + p) (m.size + e) (by omega) (by omega) (by omega) _ _ rfl rfl
      have getn : ∀ (l : List Nat) (i : Nat), (nats l).getD i 0 = ((l.getD i 0 : Nat) : Int) := by
        intro l i
        unfold nats
        rw [List.getD_eq_getElem?_getD, List.getD_eq_getElem?_getD, List.getElem?_map]
        cases l[i]? <;> rfl
      refine windowMoves_1 s m p0 e0 p e _ m.size _ _ _ w (by omega) rfl (by omega) (by omega) (by omega) rfl rfl ?_ ?_ ?_ ?_ ?_ (mod_n e0 (s.size + 1) e he (by omega) (by omega)) (mod_n p0 (e + 1) p hp (by omega) (by omega)) k1 k2 k3
      · rw [nats_len, List.length_take]; omega
      · rw [nats_len, nats_len]; exact f1
      · refine Lib.hid (fun i hi => ?_)
        rw [nats_len] at hi
        obtain ⟨f3, f4⟩ := f2 i hi
        rw [getn, getn, nats_len]
        exact ⟨fun h => by rw [f3 h]; omega, fun h => by have := f4 h; omega⟩
      · refine Lib.hid (fun i hi => ?_)
        rw [nats_len] at hi
        rw [getn, List.getD_eq_getElem?_getD, List.getElem?_eq_getElem hi]
        have := backE_lt s p e p (Nat.le_refl _) _ (List.mem_of_mem_take (List.getElem_mem hi))
        simp only [Option.getD_some]
        omega
      · rw [nats_len, List.length_take]; omega
end Go.Proofs.Ytenhglamnpmkaaa
