/-
  WindowAll, walked.
-/
import Derived.Test.YtenhglamnpmkaaaRows
import Derived.Test.YtenhglamnpmkaaaWindow10
import Derived.Test.YtenhglamnpmkaaaWindowPlain2
import Derived.Test.YtenhglamnpmkaaaMod
import Derived.WalkMore
import Derived.Test.YtenhglamnpmkaaaCommon
import Derived.Deep.Light
import Derived.Shelf.Abstract
import Derived.Shelf.RegionOpen
import Derived.OwnWalkIn
import Derived.TacticsInMore
import Derived.LoopNIn
import Derived.LoopIn
namespace Go.Proofs.Ytenhglamnpmkaaa
open Go.RowKit
set_option linter.unusedSimpArgs false
set_option linter.unusedVariables false
attribute [local go_sem] Oper.semAt_some

theorem wcandR_ok (s : ByteArray) (p e m : Nat) (h1 : s.size ≤ 1048576) (h2 : p ≤ e) (h3 : e ≤ s.size) (hm : m ≤ 64) : wcandR s p e 10 m = (cands s p e 10 m, 0) := by
  unfold wcandR
  rw [if_pos (by unfold wchk; rw [if_neg (by omega), if_pos (by unfold wOk; omega)]), if_pos (by omega)]
  rfl
theorem wcom_ok (s : ByteArray) (q p e : Nat) (h1 : s.size ≤ 1048576) (h2 : q < p) (h3 : p ≤ e) (h4 : e ≤ s.size) : wcom s q p e = (((cmn s (e - p) q p : Nat) : Int), 0) := by
  unfold wcom
  rw [if_neg (by omega), if_pos (by omega), show ((e : Int) - (p : Int)).toNat = e - p by omega]
  rfl
theorem nats_take (l : List Nat) (k : Nat) : (nats l).take k = nats (l.take k) := by simp [nats, List.map_take]
theorem modN (a : Int) (b : Nat) (hb : 1 ≤ b) : ∃ n : Nat, a % (b : Int) = (n : Int) ∧ n < b := by
  have h1 := Int.emod_nonneg a (b := (b : Int)) (by omega)
  have h2 := Int.emod_lt_of_pos a (b := (b : Int)) (by omega)
  exact ⟨(a % (b : Int)).toNat, by omega, by omega⟩
set_option maxRecDepth 100000 in
set_option maxHeartbeats 4000000 in
theorem windowAll_1 (s : ByteArray) (p0 e0 m0 : Int) (p e m : Nat) (w : World) (hs : s.size ≤ 200) (hpe : p ≤ e) (hes : e ≤ s.size) (hm : m ≤ 64)
    (qE : ∀ w, Calls Try.prog 27 #[.int .i64 e0, .int .i64 ((s.size : Int) + 1)] w fun e' w' => e' = .returned (.int .i64 (e : Int)) ∧ Below w.heap.size w w')
    (qP : ∀ w, Calls Try.prog 27 #[.int .i64 p0, .int .i64 ((e : Int) + 1)] w fun e' w' => e' = .returned (.int .i64 (p : Int)) ∧ Below w.heap.size w w')
    (qM : ∀ w, Calls Try.prog 27 #[.int .i64 m0, .int .i64 65] w fun e' w' => e' = .returned (.int .i64 (m : Int)) ∧ Below w.heap.size w w') :
    Calls Try.prog 12 #[.string s, .int .i64 p0, .int .i64 e0, .int .i64 m0] w fun e' w' => e' = .returned (.bool true) ∧ Below w.heap.size w w' := by
  have q1 := fun w => cand_x s p e 10 64 w (by omega) _ _ rfl rfl
  have q2 := fun w => cand_x s p e 10 m w (by omega) _ _ rfl rfl
  have r1 := wcandR_ok s p e 64 (by omega) hpe hes (by omega)
  have r2 := wcandR_ok s p e m (by omega) hpe hes hm
  rw [cands_all s p e _ (by omega)] at r1 r2
  simp only [Int.cast_ofNat_Int] at r1 q1
  rw [r1] at q1
  rw [r2] at q2
  clear r1 r2
  dsimp only at q1 q2
  have r3 : (nats ((backE s p e p).take 64)).take (nats ((backE s p e p).take m)).length = nats ((backE s p e p).take m) := by
    rw [nats_take, nats_len, List.take_take, List.length_take]
    congr 1
    rcases Nat.le_total m (backE s p e p).length with h | h
    · congr 1; omega
    · rw [List.take_of_length_le (by omega), List.take_of_length_le (by omega)]
  have l1 : (nats ((backE s p e p).take 64)).length = min 64 (backE s p e p).length := by rw [nats_len, List.length_take]
  have l2 : (nats ((backE s p e p).take m)).length = min m (backE s p e p).length := by rw [nats_len, List.length_take]
  have hget : ∀ j, j < p → 4 ≤ cmn s (e - p) (p - (j + 1)) p → (backE s p e j).length < 64 → (backE s p e j).length < (nats ((backE s p e p).take 64)).length ∧ (nats ((backE s p e p).take 64)).getD (backE s p e j).length 0 = ((p - (j + 1) : Nat) : Int) := by
    intro j hj hc hl
    have h1 := backE_get s p e j hj hc
    have h2 : ((backE s p e p).take 64)[(backE s p e j).length]? = some (p - (j + 1)) := by rw [List.getElem?_take, if_pos hl]; exact h1
    have h3 := (List.getElem?_eq_some_iff.1 h2).1
    refine ⟨by rw [nats_len]; exact h3, ?_⟩
    rw [List.getD_eq_getElem?_getD]
    unfold nats
    rw [List.getElem?_map, h2]
    rfl
  obtain ⟨XL, hXL⟩ : ∃ XL, nats ((backE s p e p).take 64) = XL := ⟨_, rfl⟩
  obtain ⟨XM, hXM⟩ : ∃ XM, nats ((backE s p e p).take m) = XM := ⟨_, rfl⟩
  rw [hXL] at q1 r3 l1 hget
  rw [hXM] at q2 r3 l2
  obtain ⟨N, hN⟩ : ∃ N, XL.length = N := ⟨_, rfl⟩
  obtain ⟨M, hM⟩ : ∃ M, XM.length = M := ⟨_, rfl⟩
  rw [hN] at q1 l1 hget
  rw [hM] at q2 r3 l2
  have HXL := Lib.hid hN
  have HXM := Lib.hid hM
  have R3 := Lib.hid r3
  have L1 := Lib.hid l1
  have HG := Lib.hid hget
  have hMN : (M : Int) = min (m : Int) (N : Int) := by omega
  have hMN2 : ((M : Int) != min (m : Int) (N : Int)) = false := by simp; exact hMN
  have hn0 : N ≤ 64 := by omega
  have hmm : M ≤ N := by omega
  have hmle : (m ≤ N ∧ M = m) ∨ (N < m ∧ M = N) := by omega
  clear hXL hXM hN hM r3 l1 hget l2 hMN
  have g1 : ¬ (200 : Int) < (s.size : Int) := by omega
  have hmle2 : (m ≤ N ∧ ((M : Int) != (m : Int)) = false) ∨ (N < m ∧ ((M : Int) != (N : Int)) = false) := by
    rcases hmle with ⟨h1, h2⟩ | ⟨h1, h2⟩
    · exact .inl ⟨h1, by simp; omega⟩
    · exact .inr ⟨h1, by simp; omega⟩
  clear hmle
  rcases hmle2 with ⟨hle, hMb⟩ | ⟨hle, hMb⟩
  all_goals
    go_enter Try.func12, Try.ntmps12
    go_wp2_with (first | (go_at_call 11; refine (windowKnown_w _).mono ?_; rintro e w1 ⟨rfl, hb⟩; have hsz := hb.size; (try simp at hsz)) | (go_at_call 27; (with_reducible refine (qE _).mono ?_); rintro e w1 ⟨rfl, hb⟩; have hsz := hb.size; (try simp at hsz)) | (go_at_call 27; (with_reducible refine (qP _).mono ?_); rintro e w1 ⟨rfl, hb⟩; have hsz := hb.size; (try simp at hsz)) | (go_at_call 27; (with_reducible refine (qM _).mono ?_); rintro e w1 ⟨rfl, hb⟩; have hsz := hb.size; (try simp at hsz)) | (go_at_call 41; (with_reducible refine (q1 _).mono ?_); rintro e w1 ⟨pA, cA, hcA, rfl, hrA, hb⟩; have hsz := hb.size; (try simp at hsz)) | (go_at_call 41; (with_reducible refine (q2 _).mono ?_); rintro e w1 ⟨pB, cB, hcB, rfl, hrB, hb⟩; have hsz := hb.size; (try simp at hsz); replace hrA := Row.later hrA hb; have hsl := fun w => run_slice_to (P := Try.prog) w 38 3 Try.underlying38 1 (by kernel_rfl) pA N cA M (by have h9 := hcA.out; have h8 := HXL.out; omega); have hrC : Row .i64 w1 pA XM := by rw [← R3.out]; exact hrA.take M) | (go_at_call 32; (with_reducible refine (kn_same _ _ XM _ _ _ _ (hrB.later (by repeat' (first | exact Below.refl _ _ | refine Below.drew ?_ | refine below_drewN ?_ _ | refine Below.alloc ?_ (by first | omega | (simp <;> omega)) _ | refine Below.setCell ?_ (by first | omega | (simp <;> omega)) _ | refine Below.trans ?_ (Below.mono (by assumption) (by first | omega | (simp <;> omega)))))) (hrC.later (by repeat' (first | exact Below.refl _ _ | refine Below.drew ?_ | refine below_drewN ?_ _ | refine Below.alloc ?_ (by first | omega | (simp <;> omega)) _ | refine Below.setCell ?_ (by first | omega | (simp <;> omega)) _ | refine Below.trans ?_ (Below.mono (by assumption) (by first | omega | (simp <;> omega)))))) HXM.out.symm (by omega)).mono ?_); rintro e w1 ⟨rfl, hb⟩; have hsz := hb.size; (try simp at hsz)))
    have hsw := hb.size
    clear hrB hrC hsl hMb hle hMN2
    go_loopw [14, 15] (fun v q wr => ∃ (j k : Nat) (x : Int), (j : Int) + x + 1 ≤ p ∧ p ≤ (j : Int) + x + 1 ∧ j ≤ p ∧ q = .int .i64 x ∧ v = .int .i64 (k : Int) ∧ Hid (k = (backE s p e j).length) ∧ k ≤ 64 ∧ Row .i64 wr pA XL ∧ Below w.heap.size w wr) (fun _ q _ => (intOf q + 1).toNat)
    case atStart => exact ⟨0, 0, (p : Int) - 1, by omega, by omega, by omega, rfl, rfl, Lib.hid (by rw [backE_zero]; rfl), by omega, hrA.later (by repeat' (first | exact Below.refl _ _ | refine Below.drew ?_ | refine below_drewN ?_ _ | refine Below.alloc ?_ (by first | omega | (simp <;> omega)) _ | refine Below.setCell ?_ (by first | omega | (simp <;> omega)) _ | refine Below.trans ?_ (Below.mono (by assumption) (by first | omega | (simp <;> omega))))), by repeat' (first | exact Below.refl _ _ | refine Below.drew ?_ | refine below_drewN ?_ _ | refine Below.alloc ?_ (by first | omega | (simp <;> omega)) _ | refine Below.setCell ?_ (by first | omega | (simp <;> omega)) _ | refine Below.trans ?_ (Below.mono (by assumption) (by first | omega | (simp <;> omega))))⟩
    case round =>
      clear hrA hb hsw
      obtain ⟨j, k, x, x1, x2, hj, rfl, rfl, HK, hk, hrow, hbo⟩ := hrel
      by_cases hgo : 0 ≤ x ∧ k < 64
      · obtain ⟨hx, hk6⟩ := hgo
        obtain ⟨q, rfl⟩ : ∃ q : Nat, x = (q : Int) := ⟨x.toNat, by omega⟩
        have hqj : q = p - (j + 1) := by omega
        have c3 : (k : Int) < 64 := by omega
        have qC := fun w => wcommon_p s (q : Int) (p : Int) (e : Int) w (by omega)
        rw [wcom_ok s q p e (by omega) (by omega) (by omega) hes] at qC
        dsimp only at qC
        have hsu := backE_succ s p e j (by omega)
        have hg := HG.out j (by omega)
        rw [← HK.out, ← hqj] at hg
        rw [← hqj] at hsu
        obtain ⟨n, hn⟩ : ∃ n, cmn s (e - p) q p = n := ⟨_, rfl⟩
        rw [hn] at qC hg hsu
        have HSU := Lib.hid hsu
        clear hn hqj hsu
        by_cases h4 : 4 ≤ n
        · obtain ⟨g1, g2⟩ := hg h4 hk6
          have i4 : (4 : Int) ≤ (n : Int) := by omega
          obtain ⟨b1, o1, rfl, hb1, hc1⟩ := hrow.at (i := k) (by rw [HXL.out]; exact g1)
          have c1 := hc1 k (by rw [HXL.out]; exact g1)
          rw [g2] at c1
          have i5 : (k : Int) < (N : Int) := by omega
          have i6 : (0 : Int) ≤ (k : Int) := by omega
          have HROW := Lib.hid hrow
          have HS2 : Hid (k + 1 = (backE s p e (j + 1)).length) := Lib.hid (by rw [HSU.out, if_pos h4, List.length_append, ← HK.out]; rfl)
          clear hc1 g1 g2 hrow hg
          go_wp2_with ((go_at_call 47; refine (qC _).mono ?_; rintro e w1 ⟨rfl, hb⟩; have hsz := hb.size; (try simp at hsz); (first | (have hbl := blater2 HA (by first | exact Nat.le_refl _ | (simp; done) | (simp; omega)) hb; obtain ⟨hcc, hff, HA, hne, hne'⟩ := hbl) | (obtain ⟨hcc, hff, HA, hne, hne'⟩ := blater1 hb)); (try simp only [World.size_alloc, World.size_setCell] at HA)))
          go_roundw
          case rel => exact ⟨j + 1, k + 1, (q : Int) - 1, by omega, by omega, by omega, rfl, by go_num, HS2, by omega, HROW.out.later hb, hbo.trans (hb.mono hbo.size)⟩
          case measure => go_light; simp [intOf] <;> omega
        · have i4 : ¬ (4 : Int) ≤ (n : Int) := by omega
          have HROW := Lib.hid hrow
          have HS2 : Hid (k = (backE s p e (j + 1)).length) := Lib.hid (by rw [HSU.out, if_neg h4, List.append_nil, ← HK.out])
          clear hrow hg
          go_wp2_with ((go_at_call 47; refine (qC _).mono ?_; rintro e w1 ⟨rfl, hb⟩; have hsz := hb.size; (try simp at hsz); (first | (have hbl := blater2 HA (by first | exact Nat.le_refl _ | (simp; done) | (simp; omega)) hb; obtain ⟨hcc, hff, HA, hne, hne'⟩ := hbl) | (obtain ⟨hcc, hff, HA, hne, hne'⟩ := blater1 hb)); (try simp only [World.size_alloc, World.size_setCell] at HA)))
          go_roundw
          case rel => exact ⟨j + 1, k, (q : Int) - 1, by omega, by omega, by omega, rfl, rfl, HS2, by omega, HROW.out.later hb, hbo.trans (hb.mono hbo.size)⟩
          case measure => go_light; simp [intOf] <;> omega
      · have hkN : k = N := by
          have h1 := L1.out
          have h2 := HK.out
          obtain ⟨r, hr⟩ := backE_more s p e j (p - j) (by omega)
          rw [show j + (p - j) = p by omega] at hr
          have h3 := congrArg List.length hr
          rw [List.length_append] at h3
          by_cases hx : 0 ≤ x
          · omega
          · have : j = p := by omega
            rw [this] at h2
            omega
        have e1 : ((k : Int) == (N : Int)) = true := by simp; omega
        have hx : x < 0 ∨ (0 ≤ x ∧ ¬ (k : Int) < 64) := by omega
        clear hkN hgo hrow
        rcases hx with f1 | ⟨f1, f2⟩
        all_goals
          go_wp2
          go_ret
          exact ⟨rfl, hbo⟩

theorem mod_n (a : Int) (b n : Nat) (h : a % (b : Int) = (n : Int)) (hb : 1 ≤ b) (hb2 : b ≤ 1000000) : ∀ w, Calls Try.prog 27 #[.int .i64 a, .int .i64 (b : Int)] w fun e' w' => e' = .returned (.int .i64 (n : Int)) ∧ Below w.heap.size w w' := by
  intro w
  have := modK a b (by omega) (by omega) w
  rw [h] at this
  exact this
theorem windowAll_w (s : ByteArray) (p0 e0 m0 : Int) (w : World) (hs : s.size ≤ 9223372036854775807) :
    Calls Try.prog 12 #[.string s, .int .i64 p0, .int .i64 e0, .int .i64 m0] w fun e' w' => e' = .returned (.bool true) ∧ Below w.heap.size w w' := by
  by_cases g1 : (200 : Int) < (s.size : Int)
  · skip
    go_enter Try.func12, Try.ntmps12
    go_wp2_with ((go_at_call 11; refine (windowKnown_w _).mono ?_; rintro e w1 ⟨rfl, hb⟩; have hsz := hb.size; (try simp at hsz)))
    repeat' (first | (go_region <;> go_wp2_with ((go_at_call 11; refine (windowKnown_w _).mono ?_; rintro e w1 ⟨rfl, hb⟩; have hsz := hb.size; (try simp at hsz)))))
    all_goals go_light
    all_goals (try simp only [beq_iff_eq, beq_eq_false_iff_ne, bne_iff_ne, bne_eq_false_iff_eq, ne_eq] at *)
    all_goals
      refine bodyPost_ret (v := .bool true) (by simp [results, Try.results12, go_sem, *]) rfl ⟨rfl, ?_⟩
      repeat' (first | exact Below.refl _ _ | refine Below.drew ?_ | refine below_drewN ?_ _ | refine Below.alloc ?_ (by first | omega | (simp <;> omega)) _ | refine Below.setCell ?_ (by first | omega | (simp <;> omega)) _ | refine Below.trans ?_ (Below.mono (by assumption) (by first | omega | (simp <;> omega))))
  · obtain ⟨e, he, he2⟩ := modN e0 (s.size + 1) (by omega)
    obtain ⟨p, hp, hp2⟩ := modN p0 (e + 1) (by omega)
    obtain ⟨m, hm, hm2⟩ := modN m0 65 (by omega)
    exact windowAll_1 s p0 e0 m0 p e m w (by omega) (by omega) (by omega) (by omega) (mod_n e0 (s.size + 1) e he (by omega) (by omega)) (mod_n p0 (e + 1) p hp (by omega) (by omega)) (mod_n m0 65 m hm (by omega) (by omega))
end Go.Proofs.Ytenhglamnpmkaaa
