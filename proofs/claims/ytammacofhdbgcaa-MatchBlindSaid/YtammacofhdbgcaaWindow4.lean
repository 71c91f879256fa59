/-
  The number of four bytes, walked.
-/
import Derived.Test.YtammacofhdbgcaaRows
import Derived.Test.YtammacofhdbgcaaWindow3
import Derived.WalkMore
import Derived.Test.YtammacofhdbgcaaCommon
import Derived.Deep.Light
import Derived.Shelf.Abstract
import Derived.Shelf.RegionOpen
import Derived.OwnWalkIn
import Derived.TacticsInMore
import Derived.LoopNIn
import Derived.LoopIn
namespace Go.Proofs.Ytammacofhdbgcaa
open Go.RowKit
set_option linter.unusedSimpArgs false
set_option linter.unusedVariables false
attribute [local go_sem] Oper.semAt_some
theorem or_mul4 (a b i m : Nat) (hm : m = 2 ^ i) (h : a < m) : a ||| (b * m) = b * m + a := by
  subst hm
  rw [Nat.or_comm, ← Nat.shiftLeft_eq, Nat.shiftLeft_add_eq_or_of_lt h]
theorem or64 (a b : Nat) (ha : a < 2 ^ 62) (hb : b < 2 ^ 62) : bits BinOp.or IntKind.i64 (a : Int) (b : Int) = ((a ||| b : Nat) : Int) := by
  have h := Nat.or_lt_two_pow ha hb
  have e64 : IntKind.i64.bits = 64 := rfl
  unfold bits
  simp only [e64, BitVec.ofInt_natCast, BitVec.toNat_or, BitVec.toNat_ofNat]
  rw [Nat.mod_eq_of_lt (by omega), Nat.mod_eq_of_lt (by omega), IntKind.wrap_i64]
  omega
theorem sum4 (x y z u : Nat) (hx : x < 256) (hy : y < 256) (hz : z < 256) (hu : u < 256) :
    bits BinOp.or IntKind.i64 (bits BinOp.or IntKind.i64 (bits BinOp.or IntKind.i64 (bits BinOp.or IntKind.i64 0 (x : Int)) ((y : Int) * 256)) ((z : Int) * 65536)) ((u : Int) * 16777216) = (x : Int) + y * 256 + z * 65536 + u * 16777216 := by
  have e0 : (0 : Int) = ((0 : Nat) : Int) := rfl
  have e1 : ((y : Int) * 256) = ((y * 256 : Nat) : Int) := by omega
  have e2 : ((z : Int) * 65536) = ((z * 65536 : Nat) : Int) := by omega
  have e3 : ((u : Int) * 16777216) = ((u * 16777216 : Nat) : Int) := by omega
  rw [e1, e2, e3, e0, or64 0 x (by omega) (by omega), Nat.zero_or, or64 x (y * 256) (by omega) (by omega), or_mul4 x y 8 256 (by decide) (by omega), or64 _ (z * 65536) (by omega) (by omega), or_mul4 _ z 16 65536 (by decide) (by omega), or64 _ (u * 16777216) (by omega) (by omega), or_mul4 _ u 24 16777216 (by decide) (by omega)]
  omega
theorem idx4_0 (x y z u : Value) (w : World) : (Instr.index 138 (.agg #[x, y, z, u]) (.int .i64 0)).run Try.prog w = .ok x w := by kernel_rfl
attribute [local go_sem] idx4_0
theorem idx4_1 (x y z u : Value) (w : World) : (Instr.index 138 (.agg #[x, y, z, u]) (.int .i64 1)).run Try.prog w = .ok y w := by kernel_rfl
attribute [local go_sem] idx4_1
theorem idx4_2 (x y z u : Value) (w : World) : (Instr.index 138 (.agg #[x, y, z, u]) (.int .i64 2)).run Try.prog w = .ok z w := by kernel_rfl
attribute [local go_sem] idx4_2
theorem idx4_3 (x y z u : Value) (w : World) : (Instr.index 138 (.agg #[x, y, z, u]) (.int .i64 3)).run Try.prog w = .ok u w := by kernel_rfl
attribute [local go_sem] idx4_3

/-- What Four returns. -/
def wfour (s : ByteArray) (p : Int) : Int × Int := if 1048576 < s.size then (0, 4) else if 0 ≤ p ∧ p + 4 ≤ (s.size : Int) then ((byt s p.toNat : Int) + (byt s (p.toNat + 1) : Nat) * 256 + (byt s (p.toNat + 2) : Nat) * 65536 + (byt s (p.toNat + 3) : Nat) * 16777216, 0) else (0, 2)
theorem byt_lt (s : ByteArray) (i : Nat) : byt s i < 256 := by
  unfold byt
  split
  · exact UInt8.toNat_lt _
  · decide

end Go.Proofs.Ytammacofhdbgcaa
