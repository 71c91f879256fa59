/-
  The reference reads a number: walked.
-/
import Derived.Test.YtmblpmaelglnpaaDoorRows
import Derived.Test.YtmblpmaelglnpaaDoorPrmRef1
import Derived.Test.YtmblpmaelglnpaaDoorGBase
import Derived.Deep.Light
import Derived.Shelf.Abstract
import Derived.Shelf.RegionOpen
import Derived.OwnWalkIn
import Derived.TacticsInMore
import Derived.LoopNIn
import Derived.LoopIn
import Derived.Outline
import Derived.IntWalk
import Derived.WalkMore
import Derived.Deep.QuietTactic
import Derived.BigQuiet
namespace Go.Proofs.YtmblpmaelglnpaaDoor
open Go.RowKit
set_option linter.unusedSimpArgs false
set_option linter.unusedVariables false
open Go.Shelf
attribute [local go_sem] Oper.semAt_some

/-- What reading a number gives. -/
def NumPost (s : ByteArray) (w : World) (e : Ending) (w' : World) : Prop :=
  ∃ (n : Int) (r : ByteArray) (ok : Bool), e = .returned (.tuple #[.int .i64 n, .string r, .bool ok]) ∧ Below w.heap.size w w' ∧ ((ok = false ∧ rnum 0 0 s.data.toList = none) ∨ (ok = true ∧ ∃ m : Nat, n = (m : Int) ∧ m ≤ 9999999 ∧ rnum 0 0 s.data.toList = some (m, r.data.toList)))
theorem drop_cons_at (s : ByteArray) (u : Nat) (h : u < s.size) : s.data.toList.drop u = s[u]'h :: s.data.toList.drop (u + 1) := by
  rw [List.drop_eq_getElem_cons (by exact h)]
  rfl
theorem pow_le7 {u n : Nat} (h : n < 10 ^ u) (hu : u ≤ 7) : n ≤ 9999999 := by
  have h2 : 10 ^ u ≤ 10 ^ 7 := Nat.pow_le_pow_right (by decide) hu
  have : (10 : Nat) ^ 7 = 10000000 := by decide
  omega
theorem wrap_u8_in {z : Int} (h0 : 0 ≤ z) (h1 : z ≤ 255) : IntKind.u8.wrap z = z := by
  have e : IntKind.u8.wrap z = z % 256 := rfl
  omega
set_option maxRecDepth 100000 in
set_option maxHeartbeats 4000000 in
theorem number_p (s : ByteArray) (hs : s.size ≤ 1048576) (w : World) : Calls Tryd.prog 83 #[.string s] w (NumPost s w) := by
  go_enter Tryd.func83, Tryd.ntmps83
  go_wp2
  go_loopw [5, 6] (fun v5 v6 wr => ∃ u n : Nat, v5 = .int .i64 (n : Int) ∧ v6 = .int .i64 (u : Int) ∧ u ≤ s.size ∧ u ≤ 7 ∧ Hid (n < 10 ^ u) ∧ Hid (rnum u n (s.data.toList.drop u) = rnum 0 0 s.data.toList) ∧ Hid (u = 1 → ∀ h : 0 < s.size, (s[0]'h).toNat = 48 + n) ∧ Below w.heap.size w wr) (fun _ v _ => s.size - (intOf v).toNat)
  case atStart => exact ⟨0, 0, rfl, rfl, by omega, by omega, Lib.hid (by decide), Lib.hid rfl, Lib.hid (fun h => by omega), Below.refl _ _⟩
  case round =>
    obtain ⟨u, n, rfl, rfl, hu, hu7, HN, HR, HF, hb⟩ := hrel
    have hn7 := pow_le7 HN.out hu7
    have j0 : (0 : Int) ≤ (u : Int) := by omega
    have fin : ∀ wq, Below w.heap.size w wq → (rnum u n (s.data.toList.drop u) = if u = 0 then none else some (n, s.data.toList.drop u)) → NumPost s w (.returned (.tuple #[.int .i64 (n : Int), .string (s.extract u s.size), .bool (decide (0 < u))])) wq := by
      intro wq hq he
      rw [HR.out] at he
      refine ⟨_, _, _, rfl, hq, ?_⟩
      by_cases h0 : u = 0
      · rw [if_pos h0] at he
        exact .inl ⟨by simp; omega, he⟩
      · rw [if_neg h0] at he
        exact .inr ⟨by simp; omega, n, rfl, hn7, by rw [he, bytes_drop]⟩
    by_cases hlt : u < s.size
    · have hdc := drop_cons_at s u hlt
      obtain ⟨cc, hcc⟩ : ∃ cc : UInt8, s[u]'hlt = cc := ⟨_, rfl⟩
      rw [hcc] at hdc
      obtain ⟨c, hc⟩ : ∃ c : Nat, cc.toNat = c := ⟨_, rfl⟩
      have hc2 : c < 256 := by rw [← hc]; exact UInt8.toNat_lt _
      have j1 : (u : Int) < (s.size : Int) := by omega
      have hgc : (s[u]'hlt).toNat = c := by rw [hcc]; exact hc
      by_cases hd : 48 ≤ c ∧ c ≤ 57
      · have hdig : isDig cc = true := by unfold isDig; rw [hc]; exact decide_eq_true hd
        have hH := HR.out
        rw [hdc, rnum, if_pos hdig, hc] at hH
        have g1 : decide ((48 : Int) ≤ (c : Int)) = true := by simp; omega
        have g2 : decide ((c : Int) ≤ 57) = true := by simp; omega
        have g1n : decide (48 ≤ c) = true := by simp; omega
        have g2n : decide (c ≤ 57) = true := by simp; omega
        obtain ⟨hd1, hd2⟩ := hd
        by_cases h7 : u = 7
        · have t1 : ((u : Int) == 7) = true := by simp; omega
          rw [if_pos (.inl h7)] at hH
          have HH := Lib.hid hH
          clear fin hdc hcc hc h7 hH hdig
          go_wp2
          go_ret3
          exact ⟨_, _, _, rfl, hb, .inl ⟨rfl, HH.out.symm⟩⟩
        · have t1 : ((u : Int) == 7) = false := by simp; omega
          have hu6 : u ≤ 6 := by omega
          have w1 : IntKind.u8.wrap ((c : Int) - 48) = ((c - 48 : Nat) : Int) := by rw [wrap_u8_in (by omega) (by omega)]; omega
          have w2 : IntKind.i64.wrap (10 * (n : Int)) = ((10 * n : Nat) : Int) := by rw [IntWalk.i64_in _ (by omega)]; omega
          have w3 : IntKind.i64.wrap (((10 * n : Nat) : Int) + ((c - 48 : Nat) : Int)) = ((10 * n + (c - 48) : Nat) : Int) := by rw [IntWalk.i64_in _ (by omega)]; omega
          have HGC := Lib.hid (show u = 0 → ∀ h : 0 < s.size, (s[0]'h).toNat = c from fun h0 h => by subst h0; exact hgc)
          by_cases h1 : u = 1
          · have t2 : ((u : Int) == 1) = true := by simp; omega
            have hs0 : 0 < s.size := by omega
            have z0 := HF.out h1 hs0
            have i0 : (0 : Int) < (s.size : Int) := by omega
            by_cases hn0 : n = 0
            · have z1 : (s[0]'hs0).toNat = 48 := by omega
              rw [if_pos (.inr ⟨h1, hn0⟩)] at hH
              have HH := Lib.hid hH
              clear fin hdc hcc hc h7 hH hdig h1 hn0 z0 w2 w3
              go_wp2
              go_ret3
              exact ⟨_, _, _, rfl, hb, .inl ⟨rfl, HH.out.symm⟩⟩
            · obtain ⟨z, hz⟩ : ∃ z, 48 + n = z := ⟨_, rfl⟩
              rw [hz] at z0
              have t3 : ((z : Int) == 48) = false := by simp; omega
              rw [if_neg (by rintro (h | ⟨_, h⟩); exact h7 h; exact hn0 h)] at hH
              have HH := Lib.hid hH
              have HU := Lib.hid h1
              clear fin hdc hcc hc h7 hH hdig h1 hn0 hz
              go_wp2
              go_roundw
              case rel =>
                refine ⟨u + 1, 10 * n + (c - 48), by rw [show (10 * (n : Int) + ((c - 48 : Nat) : Int)) = ((10 * n + (c - 48) : Nat) : Int) from by clear w1 w2 w3; simp], by go_num, by omega, by omega, Lib.hid ?_, Lib.hid ?_, Lib.hid ?_, hb⟩
                · have := HN.out
                  rw [Nat.pow_succ]
                  omega
                · rw [← HH.out]
                · intro hu1 hs0
                  have hu0 : u = 0 := by omega
                  have h5 := HN.out
                  subst hu0
                  have := HGC.out rfl hs0
                  simp at h5
                  omega
              case measure => go_light; simp [intOf] <;> omega
          · have t2 : ((u : Int) == 1) = false := by simp; omega
            rw [if_neg (by rintro (h | ⟨h, _⟩); exact h7 h; exact h1 h)] at hH
            have HH := Lib.hid hH
            clear fin hdc hcc hc h7 hH hdig h1
            go_wp2
            go_roundw
            case rel =>
              refine ⟨u + 1, 10 * n + (c - 48), by rw [show (10 * (n : Int) + ((c - 48 : Nat) : Int)) = ((10 * n + (c - 48) : Nat) : Int) from by clear w1 w2 w3; simp], by go_num, by omega, by omega, Lib.hid ?_, Lib.hid ?_, Lib.hid ?_, hb⟩
              · have := HN.out
                rw [Nat.pow_succ]
                omega
              · rw [← HH.out]
              · intro hu1 hs0
                have hu0 : u = 0 := by omega
                have h5 := HN.out
                subst hu0
                have := HGC.out rfl hs0
                simp at h5
                omega
            case measure => go_light; simp [intOf] <;> omega
      · have hdig : isDig cc = false := by unfold isDig; rw [hc]; exact decide_eq_false hd
        have he : rnum u n (s.data.toList.drop u) = if u = 0 then none else some (n, s.data.toList.drop u) := by rw [hdc, rnum, if_neg (by rw [hdig]; simp)]
        have FIN := Lib.hid (fun wq hq => fin wq hq he)
        have j2 : (u : Int) ≤ (s.size : Int) := by omega
        by_cases hc48 : 48 ≤ c
        · have g1 : decide ((48 : Int) ≤ (c : Int)) = true := by simp; omega
          have g1n : decide (48 ≤ c) = true := by simp; omega
          have g2 : decide ((c : Int) ≤ 57) = false := by simp; omega
          have g2n : decide (c ≤ 57) = false := by simp; omega
          clear fin hdc hcc hc hdig he hd
          go_wp2
          go_quiet (fail)
          go_wp2
          go_ret3
          exact FIN.out _ (below_drewN hb _)
        · have g1 : decide ((48 : Int) ≤ (c : Int)) = false := by simp; omega
          have g1n : decide (48 ≤ c) = false := by simp; omega
          clear fin hdc hcc hc hdig he hd
          go_wp2
          go_quiet (fail)
          go_wp2
          go_ret3
          exact FIN.out _ (below_drewN hb _)
    · have he : rnum u n (s.data.toList.drop u) = if u = 0 then none else some (n, s.data.toList.drop u) := by
        rw [List.drop_eq_nil_of_le (by show s.size ≤ u; omega)]
        rfl
      have FIN := Lib.hid (fun wq hq => fin wq hq he)
      have j2 : (u : Int) ≤ (s.size : Int) := by omega
      have g0 : decide ((u : Int) < (s.size : Int)) = false := by simp; omega
      have g0n : decide (u < s.size) = false := by simp; omega
      clear fin he
      go_wp2
      go_quiet (fail)
      go_wp2
      go_ret3
      exact FIN.out _ (below_drewN hb _)
end Go.Proofs.YtmblpmaelglnpaaDoor
