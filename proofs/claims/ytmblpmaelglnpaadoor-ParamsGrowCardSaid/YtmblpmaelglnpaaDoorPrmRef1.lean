/-
  The reference's functions on texts: after, number, decimal, walked.
-/
import Derived.Test.YtmblpmaelglnpaaDoorRows
import Derived.Test.YtmblpmaelglnpaaDoorPrmText
import Derived.Test.YtmblpmaelglnpaaDoorPrmSplit
import Derived.Test.YtmblpmaelglnpaaDoorSeqMorePlain
import Derived.Test.YtmblpmaelglnpaaDoorGBase
import Derived.Deep.Light
import Derived.Shelf.Abstract
import Derived.Shelf.RegionOpen
import Derived.OwnWalkIn
import Derived.TacticsInMore
import Derived.LoopNIn
import Derived.LoopIn
import Derived.Outline
import Derived.IntWalk
import Derived.WalkMore
import Derived.Laws.BytesArg
import Derived.Deep.QuietTactic
import Derived.BigQuiet
namespace Go.Proofs.YtmblpmaelglnpaaDoor
open Go.RowKit
set_option linter.unusedSimpArgs false
set_option linter.unusedVariables false
open Go.Shelf
attribute [local go_sem] Oper.semAt_some

def aftV (wd s : ByteArray) : ByteArray × Bool := match aft wd.data.toList s.data.toList with | some r => (⟨r.toArray⟩, true) | none => (⟨#[]⟩, false)
theorem aft_len {w s : List UInt8} (h : s.length < w.length) : aft w s = none := by
  unfold aft
  rw [if_neg]
  intro hp
  rw [List.isPrefixOf_iff_prefix] at hp
  have := hp.length_le
  omega
theorem aft_take {w s : List UInt8} (h : w.length ≤ s.length) : aft w s = if s.take w.length = w then some (s.drop w.length) else none := by
  unfold aft
  by_cases hp : s.take w.length = w
  · rw [if_pos hp, if_pos]
    rw [List.isPrefixOf_iff_prefix]
    exact ⟨s.drop w.length, by have := List.take_append_drop w.length s; rw [hp] at this; exact this⟩
  · rw [if_neg hp, if_neg]
    intro h2
    rw [List.isPrefixOf_iff_prefix] at h2
    exact hp (List.prefix_iff_eq_take.1 h2).symm
theorem bytes_eta (s : ByteArray) : (⟨s.data.toList.toArray⟩ : ByteArray) = s := by
  apply ByteArray.ext
  simp
set_option maxHeartbeats 1000000 in
theorem after_p (s wd : ByteArray) (hs : s.size ≤ 9223372036854775807) (w : World) : Calls Tryd.prog 82 #[.string s, .string wd] w fun e w' => e = .returned (.tuple #[.string (aftV wd s).1, .bool (aftV wd s).2]) ∧ w' = w := by
  unfold aftV
  have e1 : wd.data.toList.length = wd.size := rfl
  have e2 : s.data.toList.length = s.size := rfl
  by_cases h1 : s.size < wd.size
  · rw [aft_len (by omega)]
    have g1 : decide (s.size < wd.size) = true := by simpa using h1
    have g2 : decide ((s.size : Int) < (wd.size : Int)) = true := by simp; omega
    clear e1 e2
    go_enter Tryd.func82, Tryd.ntmps82
    go_wp2
    go_ret2
    exact ⟨rfl, rfl⟩
  · rw [aft_take (by omega), e1]
    have g1 : decide (s.size < wd.size) = false := by simpa using h1
    have g2 : decide ((s.size : Int) < (wd.size : Int)) = false := by simp; omega
    have i1 : wd.size ≤ s.size := by omega
    have i2 : (wd.size : Int) ≤ (s.size : Int) := by omega
    have i0 : (0 : Int) ≤ (wd.size : Int) := by omega
    have hx : (s.extract 0 wd.size).toList = s.data.toList.take wd.size := by rw [ByteArray.toList_eq, bytes_take]
    by_cases h2 : s.data.toList.take wd.size = wd.data.toList
    · have tb : ((s.extract 0 wd.size).toList == wd.toList) = true := by rw [hx, h2, ByteArray.toList_eq]; simp
      have hdr := bytes_drop s wd.size
      have hr : (⟨(s.data.toList.drop wd.size).toArray⟩ : ByteArray) = s.extract wd.size s.size := by rw [← hdr, bytes_eta]
      rw [if_pos h2]
      dsimp only
      rw [hr]
      clear e1 e2 hx h2 hdr hr
      go_enter Tryd.func82, Tryd.ntmps82
      go_wp2
      go_ret2
      exact ⟨rfl, rfl⟩
    · have tb : ((s.extract 0 wd.size).toList == wd.toList) = false := by rw [hx, ByteArray.toList_eq]; simpa using h2
      rw [if_neg h2]
      dsimp only
      clear e1 e2 hx h2
      go_enter Tryd.func82, Tryd.ntmps82
      go_wp2
      go_ret2
      exact ⟨rfl, rfl⟩
theorem conv_one21 (w : World) (B : Nat) (b : UInt8) (h : w.cell? ⟨B, 0, none⟩ = some (.int .u8 (b.toNat : Int))) : (convert 36 9 (.slice (some ⟨B, 0, none⟩) 1 1)).run Tryd.prog w = .ok (.string ⟨#[b]⟩) w := by
  have := run_convert_bytes_arg (P := Tryd.prog) w 36 5 Tryd.underlying36 Tryd.underlying5 B 0 1 1 [(b.toNat : Int)] (by simp) (fun i hi => by
    have : i = 0 := by simpa using hi
    subst this
    exact h) 9 Tryd.underlying9
  rw [this]
  have e : strOfNums [(b.toNat : Int)] = ⟨#[b]⟩ := strOfNums_reps 1 b
  rw [e]
set_option maxHeartbeats 1000000 in
theorem decimal_p (n : Nat) : n ≤ 9999999 → ∀ w, Calls Tryd.prog 91 #[.int .i64 (n : Int)] w fun e w' => e = .returned (.string ⟨(Lib.decDigits n).toArray⟩) ∧ Below w.heap.size w w' := by
  induction n using Nat.strongRecOn with
  | _ n ih =>
    intro hn w
    have m0 : (n : Int) % 10 = ((n % 10 : Nat) : Int) := by omega
    obtain ⟨d, hd⟩ : ∃ d, n % 10 = d := ⟨_, rfl⟩
    have hd2 : d < 10 := by omega
    have m1 : IntKind.i64.wrap (48 + ((n : Int) % 10)) = ((48 + d : Nat) : Int) := by rw [IntWalk.i64_in _ (by omega)]; omega
    obtain ⟨b, hb⟩ : ∃ b : UInt8, UInt8.ofNat (48 + d) = b := ⟨_, rfl⟩
    have hb2 : b.toNat = 48 + d := by rw [← hb]; simp; omega
    have hcv : ∀ (W : World) (B : Nat), W.cell? ⟨B, 0, none⟩ = some (.int .u8 (48 + (d : Int))) → (convert 36 9 (.slice (some ⟨B, 0, none⟩) 1 1)).run Tryd.prog W = .ok (.string ⟨#[b]⟩) W := fun W B h => conv_one21 W B b (by rw [h, hb2]; simp)
    have m2 : (n : Int) % 10 = (d : Int) := by omega
    have HD := Lib.hid hd
    have HB := Lib.hid hb
    clear m0 m1 hd hb hb2
    by_cases h10 : n < 10
    · have hdec : (⟨(Lib.decDigits n).toArray⟩ : ByteArray) = ⟨#[b]⟩ := by
        have := HD.out
        have e : d = n := by omega
        rw [Lib.decDigits_one h10, ← HB.out, e]
      rw [hdec]
      have g : ¬ (10 : Int) ≤ (n : Int) := by omega
      clear hdec ih
      go_enter Tryd.func91, Tryd.ntmps91
      go_wp2
      go_ret
      exact ⟨rfl, (Below.refl _ _).alloc (Nat.le_refl _) _⟩
    · have hdec : (⟨(Lib.decDigits n).toArray⟩ : ByteArray) = ⟨(Lib.decDigits (n / 10)).toArray⟩ ++ ⟨#[b]⟩ := by
        have hd9 := HD.out
        have e := (dec_step (n := n / 10) (d := d) (by omega) hd2).1
        rw [show 10 * (n / 10) + d = n by omega] at e
        rw [e, HB.out]
        apply ByteArray.ext
        simp [ByteArray.data_append]
      rw [hdec]
      have g : (10 : Int) ≤ (n : Int) := by omega
      have qD := ih (n / 10) (by omega) (by omega)
      rw [show (((n / 10 : Nat)) : Int) = (n : Int) / 10 by omega] at qD
      have hl := Lib.decDigits_length (n / 10)
      have hl2 := nDig_le7 (n := n / 10) (by omega)
      have hsz : (⟨(Lib.decDigits (n / 10)).toArray⟩ : ByteArray).size ≤ 7 := by show (Lib.decDigits (n / 10)).toArray.size ≤ 7; simp; omega
      generalize (⟨(Lib.decDigits (n / 10)).toArray⟩ : ByteArray) = D at qD hsz ⊢
      have hb1 : (⟨#[b]⟩ : ByteArray).size = 1 := rfl
      have hcat : ∀ X, (Op.stringOp .add D ⟨#[b]⟩).run Tryd.prog X = .ok (.string (D ++ ⟨#[b]⟩)) X := fun X => run_string_add_sum X _ _ (by rw [hb1]; omega)
      clear hdec ih hl hl2 hb1 hsz
      go_enter Tryd.func91, Tryd.ntmps91
      go_wp2_with (go_at_call 91; refine (qD _).mono ?_; rintro en w1 ⟨rfl, hbD⟩; have hsD := hbD.size)
      go_ret
      exact ⟨rfl, ((Below.refl _ w).alloc (Nat.le_refl _) _).trans (hbD.mono (by simp))⟩
end Go.Proofs.YtmblpmaelglnpaaDoor
