/-
  Blocks that the call itself has made and writes cell by cell: what lies in them as a list. No program in sight.
-/
import Derived.Test.YtammacofhdbgcaaSlice
import Derived.Test.YtammacofhdbgcaaRange
import Derived.OwnWalk
import Derived.Laws.OwnMore
namespace Go.Proofs.Ytammacofhdbgcaa
open Go.RowKit
set_option linter.unusedSimpArgs false
set_option linter.unusedVariables false
/-- Block B holds these values, and no cell of it is frozen. -/
def Blk (w : World) (B : Nat) (t : TypeId) (vs : List Value) : Prop := w.heap[B]? = some (.cells vs.toArray t (0, 0))
theorem Blk.lt {w : World} {B : Nat} {t : TypeId} {vs : List Value} (h : Blk w B t vs) : B < w.heap.size := (Array.getElem?_eq_some_iff.1 h).1
theorem Blk.new (w : World) (t : TypeId) (cs : Array Value) : Blk (w.alloc (.cells cs t)) w.heap.size t cs.toList := by
  have := heap_alloc_new w (.cells cs t)
  simpa [Blk] using this
theorem Blk.cell {w : World} {B : Nat} {t : TypeId} {vs : List Value} (h : Blk w B t vs) (i : Nat) : w.cell? ⟨B, i, none⟩ = vs[i]? := by
  unfold Blk at h
  simp [World.cell?, h]
theorem Blk.frozen {w : World} {B : Nat} {t : TypeId} {vs : List Value} (h : Blk w B t vs) (i : Nat) : w.frozen? ⟨B, i, none⟩ = false := by
  unfold Blk at h
  simp [World.frozen?, h]
theorem Blk.set {w : World} {B : Nat} {t : TypeId} {vs : List Value} (h : Blk w B t vs) (i : Nat) (v : Value) : Blk (w.setCell ⟨B, i, none⟩ v) B t (vs.set i v) := by
  unfold Blk at h ⊢
  simp [World.setCell, Array.getElem?_modify, h]
theorem Blk.other {w : World} {B : Nat} {t : TypeId} {vs : List Value} (h : Blk w B t vs) {a : Addr} (ha : a.block ≠ B) (v : Value) : Blk (w.setCell a v) B t vs := by
  unfold Blk at h ⊢
  simp [World.setCell, Array.getElem?_modify, ha, h]
theorem Blk.later {w w' : World} {B : Nat} {t : TypeId} {vs : List Value} (h : Blk w B t vs) (hb : Below w.heap.size w w') : Blk w' B t vs := by
  unfold Blk at h ⊢
  rw [hb.block B (Array.getElem?_eq_some_iff.1 h).1, h]
theorem Blk.alloc {w : World} {B : Nat} {t : TypeId} {vs : List Value} (h : Blk w B t vs) (o : Obj) : Blk (w.alloc o) B t vs := h.later ((Below.refl _ _).alloc (Nat.le_refl _) _)
theorem Blk.below {w w' : World} {B L : Nat} {t : TypeId} {vs : List Value} (h : Blk w B t vs) (hb : Below L w w') (hl : B < L) : Blk w' B t vs := by
  unfold Blk at h ⊢
  rw [hb.block B hl, h]
theorem Blk.keep {w w' : World} {B L : Nat} {t : TypeId} {vs : List Value} (h : Blk w B t vs) (hk : Keep L w w') : Blk w' B t vs := hk.block _ _ h (.inr rfl)
theorem Blk.row {w : World} {B : Nat} {t : TypeId} {k : IntKind} {xs : List Int} (h : Blk w B t (xs.map (Value.int k))) : Row k w (some ⟨B, 0, none⟩) xs := by
  refine .inr ⟨B, 0, rfl, h.lt, fun i hi => ?_⟩
  have := h.cell i
  simp [this, hi]
/-- Of integers. -/
def Arr (w : World) (B : Nat) (t : TypeId) (xs : List Int) : Prop := Blk w B t (xs.map (Value.int .i64))
theorem Arr.get {w : World} {B : Nat} {t : TypeId} {xs : List Int} (h : Arr w B t xs) {i : Nat} (hi : i < xs.length) : w.cell? ⟨B, i, none⟩ = some (.int .i64 (xs.getD i 0)) := by
  have := Blk.cell h i
  simp [this, hi]
theorem Arr.set {w : World} {B : Nat} {t : TypeId} {xs : List Int} (h : Arr w B t xs) (i : Nat) (v : Int) : Arr (w.setCell ⟨B, i, none⟩ (.int .i64 v)) B t (xs.set i v) := by
  have := Blk.set h i (.int .i64 v)
  unfold Arr
  rwa [List.map_set]
theorem Row.take {k : IntKind} {w : World} {a : Option Addr} {xs : List Int} (h : Row k w a xs) (n : Nat) : Row k w a (xs.take n) := by
  rcases h with h | ⟨b, off, ha, hb, hc⟩
  · subst h; exact .inl (by simp)
  · refine .inr ⟨b, off, ha, hb, fun i hi => ?_⟩
    have h1 : i < n ∧ i < xs.length := by simp at hi; omega
    rw [hc i h1.2]
    simp [List.getD_eq_getElem?_getD, List.getElem?_take, h1.1]
/-- The slice's address leads to a row whose first cells are these truth values. -/
def RowB (w : World) (a : Option Addr) (xs : List Bool) : Prop :=
  xs = [] ∨ ∃ b off, a = some ⟨b, off, none⟩ ∧ b < w.heap.size ∧ ∀ i, i < xs.length → w.cell? ⟨b, off + i, none⟩ = some (.bool (xs.getD i false))
theorem RowB.later {w w' : World} {a : Option Addr} {xs : List Bool} (h : RowB w a xs) (hb : Below w.heap.size w w') : RowB w' a xs := by
  rcases h with h | ⟨b, off, ha, hlt, hc⟩
  · exact .inl h
  · exact .inr ⟨b, off, ha, Nat.lt_of_lt_of_le hlt hb.size, fun i hi => (hb.cell (p := ⟨b, off + i, none⟩) hlt).trans (hc i hi)⟩
theorem RowB.at {w : World} {a : Option Addr} {xs : List Bool} (h : RowB w a xs) {i : Nat} (hi : i < xs.length) :
    ∃ b off, a = some ⟨b, off, none⟩ ∧ b < w.heap.size ∧ ∀ i, i < xs.length → w.cell? ⟨b, off + i, none⟩ = some (.bool (xs.getD i false)) := by
  rcases h with h | h
  · subst h; simp at hi
  · exact h
theorem RowB.of_own {w : World} {base : Nat} {e : TypeId} {v : Value} {n : Nat} {xs : List Bool} (h : w.ownsRow base e 1 v n (xs.map Value.bool)) :
    ∃ a cap, v = .slice a xs.length cap ∧ n = xs.length ∧ RowB w a xs := by
  obtain ⟨hl, h⟩ := h
  simp at hl
  rcases h with ⟨rfl, rfl⟩ | ⟨g, cap, cur, rfl, hg, hh, hn, hm, hs, ht⟩
  · have : xs = [] := by simpa using hl
    subst this
    exact ⟨none, 0, rfl, rfl, .inl rfl⟩
  · refine ⟨_, cap, by rw [hl], hl.symm, .inr ⟨g, 0, rfl, (Array.getElem?_eq_some_iff.1 hh).1, fun i hi => ?_⟩⟩
    have h1 : w.cell? ⟨g, 0 + i, none⟩ = cur[i]? := by simp [World.cell?, hh]
    rw [h1, ← Array.getElem?_toList]
    have h2 : (cur.toList.take (n * 1))[i]? = cur.toList[i]? := by rw [List.getElem?_take]; rw [if_pos (by omega)]
    rw [← h2, ht]
    simp [hi]
theorem Blk.rowB {w : World} {B : Nat} {t : TypeId} {xs : List Bool} (h : Blk w B t (xs.map Value.bool)) : RowB w (some ⟨B, 0, none⟩) xs := by
  refine .inr ⟨B, 0, rfl, h.lt, fun i hi => ?_⟩
  have := h.cell i
  simp [this, hi]
theorem infoInt : (Try.prog.info? 3).map (fun i => (i.zero, i.size, i.bytes)) = some (some (.int .i64 0), 1, 8) := by kernel_rfl
/-- make([]int, n). -/
theorem mk_ints (n : Nat) (hn : n ≤ 17592186044416) (w : World) : (Instr.makeSlice 37 (.int .i64 (n : Int)) (.int .i64 (n : Int))).run Try.prog w =
    .ok (.slice (some ⟨w.heap.size, 0, none⟩) n n) (w.alloc (.cells (madeCells #[.int .i64 0] n) 3)) := by
  obtain ⟨i, hi, hz0, hz1, hz2⟩ := info_parts infoInt
  have := run_make (P := Try.prog) w 37 3 i (.int .i64 0) Try.underlying37 hi hz0 .i64 .i64 n n (by omega) (Int.le_refl _) (by rw [hz2]; omega) (by omega)
  rw [this, hz1]
  simp [Value.cells]
theorem Arr.made (w : World) (n : Nat) : Arr (w.alloc (.cells (madeCells #[.int .i64 0] n) 3)) w.heap.size 3 (List.replicate n 0) := by
  have := Blk.new w 3 (madeCells #[.int .i64 0] n)
  rw [toList_madeCells_one] at this
  unfold Arr
  simpa using this
end Go.Proofs.Ytammacofhdbgcaa
