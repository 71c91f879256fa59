/-
  The heap's methods, asked through the interface.
-/
import Derived.Test.YtmfgkimbehkdeaaRows
import Derived.Test.YtmfgkimbehkdeaaHufRep
import Derived.Test.YtmfgkimbehkdeaaGBase
import Derived.Deep.Light
import Derived.Shelf.Abstract
import Derived.Shelf.RegionOpen
import Derived.OwnWalkIn
import Derived.TacticsInMore
import Derived.LoopNIn
import Derived.LoopIn
namespace Go.Proofs.Ytmfgkimbehkdeaa
open Go.RowKit
set_option linter.unusedSimpArgs false
set_option linter.unusedVariables false
attribute [local go_sem] Oper.semAt_some
theorem mLenA (n : Nat) (a : Addr) (w : World) : (Go.method (n + 1) 44 (.pointer (some a)) "Len").run Try.prog w = ((fun v => (40, v)) <$> (loadVar 46 a)).run Try.prog w := by kernel_rfl
theorem mLen (n : Nat) (a : Addr) (v : Value) (w : World) (h : w.cell? a = some v) : (Go.method (n + 1) 44 (.pointer (some a)) "Len").run Try.prog w = .ok (40, v) w := by
  rw [mLenA]
  simp [go_sem, loadVar, h]
theorem mLessA (n : Nat) (a : Addr) (w : World) : (Go.method (n + 1) 44 (.pointer (some a)) "Less").run Try.prog w = ((fun v => (69, v)) <$> (loadVar 46 a)).run Try.prog w := by kernel_rfl
theorem mLess (n : Nat) (a : Addr) (v : Value) (w : World) (h : w.cell? a = some v) : (Go.method (n + 1) 44 (.pointer (some a)) "Less").run Try.prog w = .ok (69, v) w := by
  rw [mLessA]
  simp [go_sem, loadVar, h]
theorem mSwapA (n : Nat) (a : Addr) (w : World) : (Go.method (n + 1) 44 (.pointer (some a)) "Swap").run Try.prog w = ((fun v => (72, v)) <$> (loadVar 46 a)).run Try.prog w := by kernel_rfl
theorem mSwap (n : Nat) (a : Addr) (v : Value) (w : World) (h : w.cell? a = some v) : (Go.method (n + 1) 44 (.pointer (some a)) "Swap").run Try.prog w = .ok (72, v) w := by
  rw [mSwapA]
  simp [go_sem, loadVar, h]
theorem mPush (n : Nat) (a : Addr) (w : World) : (Go.method (n + 1) 44 (.pointer (some a)) "Push").run Try.prog w = .ok (71, .pointer (some a)) w := by kernel_rfl
theorem mPop (n : Nat) (a : Addr) (w : World) : (Go.method (n + 1) 44 (.pointer (some a)) "Pop").run Try.prog w = .ok (70, .pointer (some a)) w := by kernel_rfl
theorem len_p (p : Option Addr) (n c : Nat) (w : World) : Calls Try.prog 40 #[.slice p n c] w fun e w' => e = .returned (.int .i64 (n : Int)) ∧ w' = w := by
  go_enter Try.func40, Try.ntmps40
  go_wp2
  go_ret
  exact ⟨rfl, rfl⟩
end Go.Proofs.Ytmfgkimbehkdeaa
