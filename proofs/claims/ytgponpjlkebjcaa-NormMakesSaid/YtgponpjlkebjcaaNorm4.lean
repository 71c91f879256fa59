/-
  Sums of probabilities, walked.
-/
import Derived.Test.YtgponpjlkebjcaaRows
import Derived.Test.YtgponpjlkebjcaaNorm3
import Derived.Test.YtgponpjlkebjcaaCommon
import Derived.Deep.Light
import Derived.Shelf.Abstract
import Derived.Shelf.RegionOpen
import Derived.OwnWalkIn
import Derived.TacticsInMore
import Derived.LoopNIn
import Derived.LoopIn
import Derived.Outline
namespace Go.Proofs.Ytgponpjlkebjcaa
open Go.RowKit
set_option linter.unusedSimpArgs false
set_option linter.unusedVariables false
attribute [local go_sem] Oper.semAt_some

def okP (ps : List Int) : Bool := ps.all fun p => decide (-1 ≤ p) && decide (p ≤ 4096)
/-- What Sum returns. -/
def rSum (ps : List Int) : Int × Int := if 256 < ps.length then (0, 2) else if okP ps then (wsum ps, 0) else (0, 2)
theorem okP_iff (ps : List Int) : okP ps = true ↔ ∀ k, k < ps.length → -1 ≤ ps.getD k 0 ∧ ps.getD k 0 ≤ 4096 := by
  unfold okP
  rw [List.all_eq_true]
  constructor
  · intro h k hk
    have := h _ (List.getElem_mem hk)
    simp [hk]
    simpa using this
  · intro h x hx
    obtain ⟨k, hk, rfl⟩ := List.getElem_of_mem hx
    have := h k hk
    simp [hk] at this
    simpa using this
theorem rSum_bad {ps : List Int} {k : Nat} {x : Int} (h : k < ps.length) (hx : ps.getD k 0 = x) (hb : ¬ (-1 ≤ x ∧ x ≤ 4096)) : rSum ps = (0, 2) := by
  have : okP ps = false := by
    cases h2 : okP ps with
    | false => rfl
    | true => exact absurd (by rw [← hx]; exact (okP_iff ps).1 h2 k h) hb
  unfold rSum
  rw [this]
  simp
theorem rSum_ok {ps : List Int} (h : ¬ 256 < ps.length) (hk : ∀ k, k < ps.length → -1 ≤ ps.getD k 0 ∧ ps.getD k 0 ≤ 4096) : rSum ps = (wsum ps, 0) := by
  unfold rSum
  rw [if_neg h, (okP_iff ps).2 hk]
  rfl
theorem wsum_pre (ps : List Int) (k : Nat) (hk : k ≤ ps.length) (h : ∀ j, j < k → -1 ≤ ps.getD j 0 ∧ ps.getD j 0 ≤ 4096) : 0 ≤ wsum (ps.take k) ∧ wsum (ps.take k) ≤ 4096 * k := by
  induction k with
  | zero => simp [wsum]
  | succ k ih =>
    obtain ⟨h1, h2⟩ := ih (by omega) (fun j hj => h j (by omega))
    have h3 := h k (by omega)
    rw [wsum_take ps k (by omega) _ rfl]
    unfold wgh
    push_cast
    split <;> omega

set_option maxHeartbeats 1000000 in
theorem sum_s (a : Option Addr) (ps : List Int) (cap : Nat) (w : World) (ha : Row .i64 w a ps) (hl : ps.length ≤ 9223372036854775807) :
    Calls Try.prog 53 #[.slice a ps.length cap] w fun e w' => e = .returned (.tuple #[.int .i64 (rSum ps).1, .int .i64 (rSum ps).2]) ∧ w' = w := by
  by_cases h0 : 256 < ps.length
  · have e1 : rSum ps = (0, 2) := by unfold rSum; rw [if_pos h0]
    rw [e1]
    have g1 : (256 : Int) < (ps.length : Int) := by omega
    clear e1
    go_enter Try.func53, Try.ntmps53
    go_wp2
    go_ret2
    exact ⟨rfl, rfl⟩
  · have g1 : ¬ (256 : Int) < (ps.length : Int) := by omega
    obtain ⟨Z, hZ⟩ : ∃ Z, rSum ps = Z := ⟨_, rfl⟩
    rw [hZ]
    have HZ := Lib.hid hZ
    clear hZ
    go_enter Try.func53, Try.ntmps53
    go_wp2
    go_loop [4, 12] (fun v i => ∃ (k : Nat) (x : Int), k ≤ ps.length ∧ i = .int .i64 (k : Int) ∧ v = .int .i64 x ∧ Hid (x = wsum (ps.take k)) ∧ Hid (∀ j, j < k → -1 ≤ ps.getD j 0 ∧ ps.getD j 0 ≤ 4096)) (fun _ i => ps.length - (intOf i).toNat)
    case atStart => exact ⟨0, 0, by omega, rfl, rfl, Lib.hid (by simp [wsum]), Lib.hid (fun j hj => by omega)⟩
    case round =>
     obtain ⟨k, x, hk, rfl, rfl, HX, HO⟩ := hrel
     by_cases hlt : k < ps.length
     · skip
       obtain ⟨b1, o1, rfl, hb1, hc1⟩ := ha.at hlt
       have c1 := hc1 k hlt
       obtain ⟨y, hy⟩ : ∃ y, ps.getD k 0 = y := ⟨_, rfl⟩
       rw [hy] at c1
       have i0 : (0 : Int) ≤ (k : Int) := by omega
       have i1 : (k : Int) < (ps.length : Int) := by omega
       have hbad := fun h => rSum_bad hlt hy h
       by_cases hok : -1 ≤ y ∧ y ≤ 4096
       · obtain ⟨y1, y2⟩ := hok
         obtain ⟨h1, h2⟩ := wsum_pre ps k hk HO.out
         rw [← HX.out] at h1 h2
         have hsu := wsum_take ps k hlt y hy
         rw [← HX.out] at hsu
         have HSU := Lib.hid hsu
         have hw : 0 ≤ wgh y ∧ wgh y ≤ 4096 := by unfold wgh; split <;> omega
         obtain ⟨z, hz⟩ : ∃ z, wgh y = z := ⟨_, rfl⟩
         have qv := fun w => weigh_s y w
         rw [hz] at hw qv
         obtain ⟨h3, h4⟩ := hw
         have HZ3 := Lib.hid hz
         have HO2 : Hid (∀ j, j < k + 1 → -1 ≤ ps.getD j 0 ∧ ps.getD j 0 ≤ 4096) := Lib.hid (fun j hj => by
           by_cases hjk : j < k
           · exact HO.out j hjk
           · obtain rfl : j = k := by omega
             rw [hy]; exact ⟨y1, y2⟩)
         clear hc1 hy hsu hz hbad
         go_wp2_with (go_at_call 66; refine (qv _).mono ?_; rintro e w' ⟨rfl, rfl⟩)
         go_round
         case rel => exact ⟨k + 1, x + z, by omega, by go_num, rfl, by rw [HSU.out, HZ3.out]; rfl, HO2⟩
         case measure => go_light; simp [intOf] <;> omega
       · have HB := Lib.hid (hbad hok)
         have hbd : y < -1 ∨ (¬ y < -1 ∧ 4096 < y) := by omega
         clear hc1 hy hbad hok
         rcases hbd with y1 | ⟨y1, y2⟩
         all_goals
           go_wp2
           go_ret2
           exact ⟨by rw [← HZ.out, HB.out]; rfl, rfl⟩
     · obtain rfl : k = ps.length := by omega
       have HF := Lib.hid (rSum_ok h0 HO.out)
       go_wp2
       go_ret2
       exact ⟨by rw [← HZ.out, HF.out, HX.out, List.take_length]; rfl, rfl⟩

set_option maxHeartbeats 1000000 in
theorem rsum_p (a : Option Addr) (ps : List Int) (cap : Nat) (w : World) (ha : Row .i64 w a ps) (hl : ps.length ≤ 9223372036854775807) :
    Calls Try.prog 54 #[.slice a ps.length cap] w fun e w' => e = .returned (.tuple #[.int .i64 (rSum ps).1, .int .i64 (rSum ps).2]) ∧ w' = w := by
  by_cases h0 : 256 < ps.length
  · have e1 : rSum ps = (0, 2) := by unfold rSum; rw [if_pos h0]
    rw [e1]
    have g1 : (256 : Int) < (ps.length : Int) := by omega
    clear e1
    go_enter Try.func54, Try.ntmps54
    go_wp2
    go_ret2
    exact ⟨rfl, rfl⟩
  · have g1 : ¬ (256 : Int) < (ps.length : Int) := by omega
    have qs := fun w h2 h3 => rsum_s a ps cap w h2 (by omega) h3
    obtain ⟨Z, hZ⟩ : ∃ Z, rSum ps = Z := ⟨_, rfl⟩
    rw [hZ]
    have HZ := Lib.hid hZ
    obtain ⟨S, hS⟩ : ∃ S, wsum ps = S := ⟨_, rfl⟩
    rw [hS] at qs
    have HS := Lib.hid hS
    clear hZ hS
    go_enter Try.func54, Try.ntmps54
    go_wp2
    go_loop [4] (fun i => ∃ (k : Nat), k ≤ ps.length ∧ i = .int .i64 (k : Int) ∧ Hid (∀ j, j < k → -1 ≤ ps.getD j 0 ∧ ps.getD j 0 ≤ 4096)) (fun i => ps.length - (intOf i).toNat)
    case atStart => exact ⟨0, by omega, rfl, Lib.hid (fun j hj => by omega)⟩
    case round =>
     obtain ⟨k, hk, rfl, HO⟩ := hrel
     by_cases hlt : k < ps.length
     · skip
       obtain ⟨b1, o1, rfl, hb1, hc1⟩ := ha.at hlt
       have c1 := hc1 k hlt
       obtain ⟨y, hy⟩ : ∃ y, ps.getD k 0 = y := ⟨_, rfl⟩
       rw [hy] at c1
       have i0 : (0 : Int) ≤ (k : Int) := by omega
       have i1 : (k : Int) < (ps.length : Int) := by omega
       have hbad := fun h => rSum_bad hlt hy h
       by_cases hok : -1 ≤ y ∧ y ≤ 4096
       · obtain ⟨y1, y2⟩ := hok
         have HO2 : Hid (∀ j, j < k + 1 → -1 ≤ ps.getD j 0 ∧ ps.getD j 0 ≤ 4096) := Lib.hid (fun j hj => by
           by_cases hjk : j < k
           · exact HO.out j hjk
           · obtain rfl : j = k := by omega
             rw [hy]; exact ⟨y1, y2⟩)
         clear hc1 hy hbad qs
         go_wp2
         go_round
         case rel => exact ⟨k + 1, by omega, by go_num, HO2⟩
         case measure => go_light; simp [intOf] <;> omega
       · have HB := Lib.hid (hbad hok)
         have hbd : y < -1 ∨ (¬ y < -1 ∧ 4096 < y) := by omega
         clear hc1 hy hbad hok qs
         rcases hbd with y1 | ⟨y1, y2⟩
         all_goals
           go_wp2
           go_ret2
           exact ⟨by rw [← HZ.out, HB.out]; rfl, rfl⟩
     · obtain rfl : k = ps.length := by omega
       have HF := Lib.hid (rSum_ok h0 HO.out)
       have q2 := qs w ha (fun k hk => by have := HO.out k hk; omega)
       clear qs
       go_wp2_with (go_at_call 70; refine q2.mono ?_; rintro e w' ⟨rfl, rfl⟩)
       go_ret2
       exact ⟨by rw [← HZ.out, HF.out, HS.out]; rfl, rfl⟩
end Go.Proofs.Ytgponpjlkebjcaa
