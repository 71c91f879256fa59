/-
  What the listed variables hold, and what strconv.Itoa and strconv.Atoi do then.
-/
import Derived.Test.YtmblpmaelglnpaaDoorRows
import Derived.Test.YtmblpmaelglnpaaDoorPrmShelf
import Derived.Test.YtmblpmaelglnpaaDoorPrmPlain
import Derived.WalkKit
import Derived.Lib.AppendIntMem
namespace Go.Proofs.YtmblpmaelglnpaaDoor
open Go.RowKit
set_option linter.unusedSimpArgs false
set_option linter.unusedVariables false

/-- What the listed variables hold. -/
structure PEnv (w : World) : Prop where
  tab : Lib.TabIs Tryd.prog w "internal/strconv.uint64pow10" .u64 Lib.pow10Tab
  syn : ∃ t p, w.cell? ⟨1, 0, none⟩ = some (.iface t p)
  rng : ∃ t p, w.cell? ⟨2, 0, none⟩ = some (.iface t p)
theorem PEnv.later {w w' : World} (h : PEnv w) (hb : Below w.heap.size w w') : PEnv w' := by
  obtain ⟨h1, ⟨t2, p2, h2⟩, ⟨t3, p3, h3⟩⟩ := h
  exact ⟨Lib.tabBelow_of_tabIs h1 w' hb, ⟨t2, p2, (hb.cell (World.block_lt_of_cell? w _ h2)).trans h2⟩, ⟨t3, p3, (hb.cell (World.block_lt_of_cell? w _ h3)).trans h3⟩⟩
theorem below_grow (w : World) (k : Nat) (os : Array Obj) : Below w.heap.size w (Sort.grow (w.drewN k) os) :=
  ⟨rfl, rfl, rfl, by simp [Sort.grow], fun i hi => by
    show ((w.drewN k).heap ++ os)[i]? = _
    rw [Array.getElem?_append_left (by show i < w.heap.size; omega)]
    rfl⟩
theorem itoa_p (n : Int) (h0 : -9223372036854775808 ≤ n) (h1 : n ≤ 9223372036854775807) (w : World) (h : PEnv w) : Calls Tryd.prog 109 #[.int .i64 n] w fun e w' => e = .returned (.string ⟨(Lib.itoa n).toArray⟩) ∧ Below w.heap.size w w' := by
  refine (Tryd.strconv_Itoa n h0 h1 w h.tab).mono ?_
  rintro e w' ⟨he, k, os, rfl⟩
  exact ⟨he, below_grow w k os⟩
/-- A number, and whatever error. -/
def NumErr (v : Int) (w : World) (e : Ending) (w' : World) : Prop := ∃ ev, e = .returned (.tuple #[.int .i64 v, ev]) ∧ Below w.heap.size w w'
theorem atoi_p (s : ByteArray) (hs : s.size ≤ 1048576) (w : World) (h : PEnv w) : Calls Tryd.prog 79 #[.string s] w (NumErr (anum s.data.toList) w) := by
  unfold anum
  cases ha : Lib.atoiAll s.data.toList with
  | ok v =>
    refine (Tryd.strconv_Atoi_ok s (by omega) v ha w).mono ?_
    rintro e w' ⟨he, rfl | ⟨t, rfl⟩⟩
    · exact ⟨_, he, Below.refl _ _⟩
    · exact ⟨_, he, Lib.bytesWorld_below _ _ _⟩
  | «syntax» =>
    obtain ⟨t, p, hc⟩ := h.syn
    refine (Tryd.strconv_Atoi_syntax s (by omega) ha _ w hc (.inr ⟨t, p, rfl⟩)).mono ?_
    rintro e w' ⟨N, he, _, _, hb⟩
    exact ⟨_, he, hb⟩
  | range =>
    obtain ⟨t, p, hc⟩ := h.rng
    refine (Tryd.strconv_Atoi_range s (by omega) ha _ w hc (.inr ⟨t, p, rfl⟩)).mono ?_
    rintro e w' ⟨N, he, _, _, hb⟩
    exact ⟨_, he, hb⟩
end Go.Proofs.YtmblpmaelglnpaaDoor
