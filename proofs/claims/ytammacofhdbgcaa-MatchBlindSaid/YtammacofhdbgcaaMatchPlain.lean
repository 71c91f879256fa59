/-
  All matches of a place, as a plain list. No program in sight.
-/
import Derived.Test.YtammacofhdbgcaaRows
import Derived.Test.YtammacofhdbgcaaMatch7
import Derived.Test.YtammacofhdbgcaaWindow8
import Derived.Test.YtammacofhdbgcaaRepsValue
import Derived.Test.YtammacofhdbgcaaRepsPlain2
import Derived.Test.YtammacofhdbgcaaCommon
import Derived.Deep.Light
import Derived.Shelf.Abstract
import Derived.Shelf.RegionOpen
import Derived.OwnWalkIn
import Derived.TacticsInMore
import Derived.LoopNIn
import Derived.LoopIn
namespace Go.Proofs.Ytammacofhdbgcaa
open Go.RowKit
set_option linter.unusedSimpArgs false
set_option linter.unusedVariables false

/-- The match of a candidate. -/
def mof (s : ByteArray) (p e : Nat) (a b c lits : Int) (q : Nat) : Int × Int × Int × Int :=
  ((p : Int) - (q : Int), (cmn s (e - p) q p : Nat), (Rval a b c ((p : Int) - (q : Int)) lits).1, mgain (cmn s (e - p) q p : Nat) (Rval a b c ((p : Int) - (q : Int)) lits).1)
/-- The matches of some candidates. -/
def mofs (s : ByteArray) (p e : Nat) (a b c lits : Int) (l : List Nat) : List (Int × Int × Int × Int) := l.map (mof s p e a b c lits)
theorem mofs_len (s : ByteArray) (p e : Nat) (a b c lits : Int) (l : List Nat) : (mofs s p e a b c lits l).length = l.length := by simp [mofs]
theorem mofs_get (s : ByteArray) (p e : Nat) (a b c lits : Int) (l : List Nat) (i : Nat) (h : i < l.length) : (mofs s p e a b c lits l).getD i (0, 0, 0, 0) = mof s p e a b c lits (l.getD i 0) := by
  simp [mofs, List.getD_eq_getElem?_getD, h]
theorem mofs_take (s : ByteArray) (p e : Nat) (a b c lits : Int) (l : List Nat) (k : Nat) : (mofs s p e a b c lits l).take k = mofs s p e a b c lits (l.take k) := by simp [mofs, List.map_take]
end Go.Proofs.Ytammacofhdbgcaa
