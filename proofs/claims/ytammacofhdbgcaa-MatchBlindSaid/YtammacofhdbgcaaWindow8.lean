/-
  The reference's candidates, the nearest one, and what all of them return, walked.
-/
import Derived.Test.YtammacofhdbgcaaRows
import Derived.Test.YtammacofhdbgcaaWindow7
import Derived.WalkMore
import Derived.Test.YtammacofhdbgcaaCommon
import Derived.Deep.Light
import Derived.Shelf.Abstract
import Derived.Shelf.RegionOpen
import Derived.OwnWalkIn
import Derived.TacticsInMore
import Derived.LoopNIn
import Derived.LoopIn
import Derived.Maps.OwnIn
namespace Go.Proofs.Ytammacofhdbgcaa
open Go.RowKit
set_option linter.unusedSimpArgs false
set_option linter.unusedVariables false
attribute [local go_sem] Oper.semAt_some

/-- What hands back places and an error: the slice leads to these numbers. -/
def CandPost (R : List Nat × Int) (w : World) (e : Ending) (w' : World) : Prop :=
  ∃ pa ca, R.1.length ≤ ca ∧ e = .returned (.tuple #[.slice pa R.1.length ca, .int .i64 R.2]) ∧ Row .i64 w' pa (nats R.1) ∧ Below w.heap.size w w'
/-- The candidates up to k places back. -/
def back (s : ByteArray) (p k : Nat) : List Nat := (plc s p (p - k) k).reverse
theorem back_succ (s : ByteArray) (p k : Nat) (h : k < p) : back s p (k + 1) = back s p k ++ (if fours s (p - (k + 1)) = fours s p then [p - (k + 1)] else []) := back_step s p k h
theorem back_more (s : ByteArray) (p k : Nat) : ∀ m, k + m ≤ p → ∃ r, back s p (k + m) = back s p k ++ r := by
  intro m
  induction m with
  | zero => intro _; exact ⟨[], by simp⟩
  | succ m ih =>
    intro h
    obtain ⟨r, hr⟩ := ih (by omega)
    have := back_succ s p (k + m) (by omega)
    rw [show k + m + 1 = k + (m + 1) by omega] at this
    rw [this, hr]
    exact ⟨_, List.append_assoc _ _ _⟩
theorem cands_stop (s : ByteArray) (p e l most k : Nat) (he : ¬ e - p < 4) (hk : k ≤ wback p l) (hl : (back s p k).length ≤ most) (h : k = wback p l ∨ (back s p k).length = most) : cands s p e l most = back s p k := by
  have hw : wback p l ≤ p := by unfold wback; omega
  unfold cands
  rw [if_neg he]
  obtain ⟨r, hr⟩ := back_more s p k (wback p l - k) (by omega)
  rw [show k + (wback p l - k) = wback p l by omega] at hr
  change (back s p (wback p l)).take most = _
  rcases h with h | h
  · subst h
    rw [List.take_of_length_le hl]
  · rw [hr]
    exact take_app_full _ _ _ h
theorem byte_fours (s : ByteArray) (q p : Nat) (hq : q + 4 ≤ s.size) (hp : p + 4 ≤ s.size) : (s.extract q (q + 4) = s.extract p (p + 4)) ↔ fours s q = fours s p := by
  have e1 := ext4 s q hq
  have e2 := ext4 s p hp
  rw [← key4_iff]
  unfold key4
  constructor
  · intro h
    rw [← e1, ← e2, h]
  · intro h
    have h2 : b4 s q = b4 s p := by simpa using h
    rw [← e1, ← e2] at h2
    have h3 : (s.extract q (q + 4)).data.toList = (s.extract p (p + 4)).data.toList := by
      refine (List.map_inj_right ?_).1 h2
      intro a b hab
      simp at hab
      exact UInt8.toNat_inj.1 (by omega)
    have h4 : (s.extract q (q + 4)).data = (s.extract p (p + 4)).data := Array.toList_inj.1 h3
    exact ByteArray.ext h4
theorem beq_bytes (a b : ByteArray) : (a.toList == b.toList) = decide (a = b) := by
  rw [Bool.eq_iff_iff, ByteArray.toList_eq, ByteArray.toList_eq]
  simp [Array.toList_inj, ByteArray.ext_iff]

set_option maxRecDepth 100000 in
set_option maxHeartbeats 2000000 in
theorem rcand_1 (s : ByteArray) (p e l most : Nat) (w : World) (h1 : s.size ≤ 1048576) (hpe : p ≤ e) (hes : e ≤ s.size) (hl1 : 10 ≤ l) (hl2 : l ≤ 27) (hm : most ≤ 64) (hc : wchk s.size p e l = 0) (hep : ¬ e - p < 4) (L : List Nat) (HL : Hid (cands s p e l most = L)) :
    Calls Try.prog 57 #[.string s, .int .i64 (p : Int), .int .i64 (e : Int), .int .i64 (l : Int), .int .i64 (most : Int)] w (CandPost (L, 0) w) := by
  have hl9 : s.size ≤ 9223372036854775807 := by omega
  have g1 : ¬ (most : Int) < 0 := by omega
  have g2 : ¬ (64 : Int) < (most : Int) := by omega
  have g3 : ¬ (e : Int) - (p : Int) < 4 := by omega
  have hk := pow_le (l := (l : Int)) (by omega)
  rw [Int.toNat_natCast] at hk
  have hwb := wback_int p l
  obtain ⟨P, hP⟩ : ∃ P, (2 : Int) ^ l = P := ⟨_, rfl⟩
  rw [hP] at hk hwb
  have HWB := Lib.hid hwb
  have HEP := Lib.hid hep
  clear hwb hep
  obtain ⟨k1, k2⟩ := hk
  obtain ⟨i0, hinf, hz0, hz1, hz2⟩ := info_parts infoInt
  go_enter Try.func57, Try.ntmps57
  go_wp2_with ((go_at_call 55; refine (rwcheck_p _ _ _ _ _ hl9).mono ?_; rintro e w1 ⟨rfl, hb⟩; have hsz := hb.size; (try simp at hsz)))
  have hlo : wback p l ≤ p := by unfold wback; omega
  clear hsz
  go_loopw [13, 14] (fun v i wr => ∃ (k j n : Nat) (x : Int) (ad : Option Addr) (cap : Nat), k + j ≤ p ∧ p ≤ k + j ∧ x + 1 ≤ j ∧ j ≤ x + 1 ∧ i = .int .i64 x ∧ k ≤ wback p l ∧ v = .slice ad n cap ∧ n ≤ most ∧ Hid ((back s p k).length = n) ∧ wr.ownsRow w.heap.size 3 1 (.slice ad n cap) n (pvals (back s p k)) ∧ Below w.heap.size w wr) (fun _ i _ => (intOf i + 1).toNat)
  case atStart => exact ⟨0, p, 0, (p : Int) - 1, none, 0, by omega, by omega, by omega, by omega, rfl, by omega, rfl, by omega, rfl, World.ownsRow_nil _ _ _ _, hb⟩
  case round =>
    clear hb
    obtain ⟨k, j, n, x, ad, cap, e1, e2, e3, e4, rfl, hk, rfl, hn, HN, ho, hb⟩ := hrel
    have HO := Lib.hid ho
    clear ho
    have hwb := HWB.out
    by_cases hgo : k < wback p l ∧ n < most
    · obtain ⟨hk1, hn1⟩ := hgo
      have f1 : 0 ≤ x := by omega
      have f2 : (p : Int) - x ≤ P := by omega
      have f3 : (n : Int) < (most : Int) := by omega
      obtain ⟨q, rfl⟩ : ∃ q : Nat, x = (q : Int) := ⟨x.toNat, by omega⟩
      have hqk : q = p - (k + 1) := by omega
      have hqp : p + 4 ≤ s.size := by have := HEP.out; omega
      have hbs := back_succ s p k (by omega)
      rw [← hqk] at hbs
      have HBS := Lib.hid hbs
      have hfb := byte_fours s q p (by omega) (by omega)
      have i1 : (0 : Int) ≤ (q : Int) + 4 := by omega
      have i2 : (q : Int) + 4 ≤ (s.size : Int) := by omega
      have i3 : (q : Int) ≤ (q : Int) + 4 := by omega
      have i4 : (0 : Int) ≤ (p : Int) + 4 := by omega
      have i5 : (p : Int) + 4 ≤ (s.size : Int) := by omega
      have i6 : (p : Int) ≤ (p : Int) + 4 := by omega
      have i7 : (0 : Int) ≤ (p : Int) := by omega
      have t1 : ((q : Int) + 4).toNat = q + 4 := by omega
      have t2 : ((p : Int) + 4).toNat = p + 4 := by omega
      clear hwb hqk hbs
      by_cases hff : fours s q = fours s p
      · have b1 : ((s.extract q (q + 4)).toList == (s.extract p (p + 4)).toList) = true := by rw [beq_bytes]; simpa using hfb.2 hff
        have HFF := Lib.hid hff
        clear hff hfb
        go_wp2
        go_quiet (fail)
        go_wp2_with (at_builtin; refine wpList_append_own_at _ rfl _ _ 37 rfl w.heap.size 3 i0 (.int .i64 0) 1 8 Try.underlying37 hinf hz0 hz1 hz2 rfl (by decide) _ _ _ rfl ((ownsRow_later HO.out (below_drewN (Below.refl _ _) nq)).alloc _) ⟨wr.heap.size, 0, none⟩ 1 1 [.int .i64 (q : Int)] rfl rfl (cell_one_new _ _ _) (one_int _ _) ?_ ?_ ?_ ?_; (unfold maxLen; omega); omega; (have := hb.size; simp; omega); intro v' w4 ho' hg4 hnil hat; obtain ⟨ad', cap', rfl⟩ := own_slice ho')
        go_roundw
        case rel =>
          refine ⟨k + 1, q, n + 1, (q : Int) - 1, ad', cap', by omega, by omega, by omega, by omega, rfl, by omega, rfl, by omega, ?_, ?_, ?_⟩
          · rw [HBS.out, if_pos HFF.out]
            have := HN.out
            exact Lib.hid (by simp [this])
          · rw [HBS.out, if_pos HFF.out]
            simpa [pvals, nats] using ho'
          · exact (((hb.trans (below_drewN (Below.refl _ _) nq)).alloc hb.size _).grown hg4 (by have := hb.size; simp; omega) (fun g h => by have := own_base HO.out g h; omega))
        case measure => go_light; simp [intOf] <;> omega
      · have b1 : ((s.extract q (q + 4)).toList == (s.extract p (p + 4)).toList) = false := by rw [beq_bytes]; simpa using fun h => hff (hfb.1 h)
        have HFF := Lib.hid hff
        clear hff hfb
        go_wp2
        go_quiet (fail)
        go_wp2
        go_roundw
        case rel =>
          refine ⟨k + 1, q, n, (q : Int) - 1, ad, cap, by omega, by omega, by omega, by omega, rfl, by omega, rfl, by omega, ?_, ?_, below_drewN hb _⟩
          · rw [HBS.out, if_neg HFF.out]
            have := HN.out
            exact Lib.hid (by simp [this])
          · rw [HBS.out, if_neg HFF.out]
            simpa using ownsRow_later HO.out (below_drewN (Below.refl _ _) nq)
        case measure => go_light; simp [intOf] <;> omega
    · have HS := Lib.hid (cands_stop s p e l most k HEP.out hk (by rw [HN.out]; exact hn) (by rw [HN.out]; omega))
      have hx : x < 0 ∨ (0 ≤ x ∧ P < (p : Int) - x) ∨ (0 ≤ x ∧ (p : Int) - x ≤ P ∧ ¬ (n : Int) < (most : Int)) := by omega
      clear hgo hwb
      rcases hx with f1 | ⟨f1, f2⟩ | ⟨f1, f2, f3⟩
      all_goals
        go_wp2
        go_light
        refine bodyPost_ret (results_tmp2 rfl _ _ _) rfl ⟨ad, cap, ?_, ?_, ?_, hb⟩
        · have h1 := HS.out
          rw [HL.out] at h1
          have h2 := HN.out
          rw [← h1] at h2
          show L.length ≤ cap
          rw [h2]
          exact own_cap HO.out
        · have h1 := HS.out
          rw [HL.out] at h1
          have h2 := HN.out
          rw [← h1] at h2
          rw [h2]
          rfl
        · have h1 := HS.out
          rw [HL.out] at h1
          rw [h1]
          exact Row.of_own_slice (k := .i64) HO.out
end Go.Proofs.Ytammacofhdbgcaa
