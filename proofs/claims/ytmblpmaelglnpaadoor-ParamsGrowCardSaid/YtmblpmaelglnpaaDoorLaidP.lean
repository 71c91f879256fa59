/-
  The seven listed variables of the rows about parameters: what the condition gives; a world that meets it.
-/
import Derived.Test.YtmblpmaelglnpaaDoorRows
import Derived.Test.YtmblpmaelglnpaaDoorPrmEnv
import Derived.Test.YtmblpmaelglnpaaDoorGBase
import Derived.Deep.Light
import Derived.Shelf.Abstract
import Derived.Shelf.RegionOpen
import Derived.OwnWalkIn
import Derived.TacticsInMore
import Derived.LoopNIn
import Derived.LoopIn
import Derived.LaidLaws
import Derived.LaidHandle
import Derived.Stop.LaidErr
import Derived.Lib.LaidTab
import Derived.ProofKit
namespace Go.Proofs.YtmblpmaelglnpaaDoor
open Go.RowKit
set_option linter.unusedSimpArgs false
set_option linter.unusedVariables false

/-- What is listed. -/
def laidP : List (String × DataW Unit) := [("math/bits.deBruijn32tab", Rows.laid_math_bits_deBruijn32tab), ("math/bits.deBruijn64tab", Rows.laid_math_bits_deBruijn64tab), ("internal/strconv.uint64pow10", Rows.laid_internal_strconv_uint64pow10), ("unicode/utf8.acceptRanges", Rows.laid_unicode_utf8_acceptRanges), ("strconv.ErrRange", Rows.laid_strconv_ErrRange), ("strconv.ErrSyntax", Rows.laid_strconv_ErrSyntax), ("unicode/utf8.first", Rows.laid_unicode_utf8_first)]

theorem pStar : "*" ++ "errors.errorString" = "*errors.errorString" := by decide
theorem pRow (u : TypeId) (h : Tryd.prog.typeName? 3 u = some "*errors.errorString") : u = 188 :=
  typeName_ptr_named (nm := "errors.errorString") (by rw [pStar]; kernel_rfl) (by kernel_rfl) (by decide) u (by rw [pStar]; exact h)
/-- What the condition gives a walk. -/
theorem noHandles : (laidP.filter fun x => x.2.handleName?.isSome) = [] := by kernel_rfl
theorem laidP_plain (W : World) : laidMetH Tryd.prog laidP W = laidMet Tryd.prog laidP W := by
  unfold laidMetH
  rw [noHandles]
theorem penv_of_laid {W : World} (hh : laidMetH Tryd.prog laidP W) : PEnv W := by
  have h : laidMet Tryd.prog laidP W := by rw [← laidP_plain]; exact hh
  have h2 := h.tail.tail
  have h4 := h2.tail.tail
  have h5 := h4.tail
  refine ⟨?_, ?_, ?_⟩
  · exact Lib.tabIs_of_head (g := 6) (by kernel_rfl) (by kernel_rfl) Tryd.underlying204 Tryd.underlying114 (by kernel_rfl) (by kernel_rfl) (show laidMet Tryd.prog (("internal/strconv.uint64pow10", Lib.tabData .u64 Lib.pow10Tab) :: _) W from h2)
  · obtain ⟨a, t, hv, _⟩ := laid_sentinel (g := 1) (show laidMet Tryd.prog (("strconv.ErrSyntax", _) :: _) W from h5) (by kernel_rfl) (by kernel_rfl) Tryd.underlying74 pRow Tryd.underlying188 Tryd.underlying190 rfl rfl Tryd.underlying9 (by kernel_rfl) (by kernel_rfl)
    exact ⟨_, _, by simpa using World.var?_cell (g := 1) (by kernel_rfl) hv 0⟩
  · obtain ⟨a, t, hv, _⟩ := laid_sentinel (g := 2) (show laidMet Tryd.prog (("strconv.ErrRange", _) :: _) W from h4) (by kernel_rfl) (by kernel_rfl) Tryd.underlying74 pRow Tryd.underlying188 Tryd.underlying190 rfl rfl Tryd.underlying9 (by kernel_rfl) (by kernel_rfl)
    exact ⟨_, _, by simpa using World.var?_cell (g := 2) (by kernel_rfl) hv 0⟩
def lit1 : DataW Unit → List Value
  | .lit (.int k z) => [.int k z]
  | _ => []
def lit2 : DataW Unit → List Value
  | .agg l => l.flatMap lit1
  | _ => []
def lit3 : DataW Unit → List Value
  | .agg l => l.flatMap lit2
  | _ => []
/-- A world that meets the condition. -/
noncomputable def laidWorldP (os : Os) : World :=
  let low := (World.holding Tryd.prog default ⟨#[], #[], []⟩).heap.size
  let w0 := World.holding Tryd.prog os ⟨#[.cells #[.string ⟨#[118, 97, 108, 117, 101, 32, 111, 117, 116, 32, 111, 102, 32, 114, 97, 110, 103, 101]⟩] 190, .cells #[.string ⟨#[105, 110, 118, 97, 108, 105, 100, 32, 115, 121, 110, 116, 97, 120]⟩] 190], #[], []⟩
  let put (h : Array Obj) (g : Nat) (cs : Array Value) : Array Obj := h.modify g fun
    | .cells _ t frozen => .cells cs t frozen
    | o => o
  { w0 with heap := put (put (put (put (put (put (put w0.heap 7 (lit2 Rows.laid_math_bits_deBruijn32tab).toArray) 8 (lit2 Rows.laid_math_bits_deBruijn64tab).toArray) 6 (lit2 Rows.laid_internal_strconv_uint64pow10).toArray) 4 (lit3 Rows.laid_unicode_utf8_acceptRanges).toArray) 2 #[.iface 188 (.pointer (some ⟨low, 0, none⟩))]) 1 #[.iface 188 (.pointer (some ⟨low + 1, 0, none⟩))]) 3 (lit2 Rows.laid_unicode_utf8_first).toArray }
set_option maxRecDepth 1000000 in
theorem laidWorldP_met (os : Os) (args : Array Value) : laidMetH Tryd.prog laidP ((laidWorldP os).forCall (fun _ _ => 0) ⟨#[], args, []⟩).memory := by
  rw [laidP_plain]
  exact laidMet_of_run' 8 (by kernel_rfl) (by kernel_rfl)
end Go.Proofs.YtmblpmaelglnpaaDoor
