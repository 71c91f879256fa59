/-
  Trees in memory: blocks of one type that nobody writes into once they are made.
-/
import Derived.Test.YtmfgkimbehkdeaaRows
import Derived.Test.YtmfgkimbehkdeaaGBase
import Derived.Test.YtmfgkimbehkdeaaHufLeast
namespace Go.Proofs.Ytmfgkimbehkdeaa
open Go.RowKit
set_option linter.unusedSimpArgs false
set_option linter.unusedVariables false

/-- Blocks of the type NT stay as they are. -/
def NK (NT : TypeId) (X Y : World) : Prop := ∀ B vs, Blk X B NT vs → Blk Y B NT vs
theorem NK.refl (NT : TypeId) (X : World) : NK NT X X := fun _ _ h => h
theorem NK.trans {NT : TypeId} {X Y Z : World} (h : NK NT X Y) (k : NK NT Y Z) : NK NT X Z := fun B vs hb => k B vs (h B vs hb)
theorem NK.of_below {NT : TypeId} {X Y : World} (h : Below X.heap.size X Y) : NK NT X Y := fun _ _ hb => hb.later h
theorem NK.setCell {NT : TypeId} {X : World} {a : Addr} (v : Value) {t : TypeId} {vs : List Value} (h : Blk X a.block t vs) (hn : t ≠ NT) : NK NT X (X.setCell a v) := by
  intro B us hb
  refine hb.other ?_ v
  rintro rfl
  unfold Blk at h hb
  rw [h] at hb
  simp at hb
  exact hn hb.2
/-- A tree lies at block B. -/
def Rep (NT : TypeId) (w : World) : Nat → HT → Prop
  | B, .leaf c s => Blk w B NT [.int .i64 (c : Int), .int .i64 (s : Int), .int .i64 0, .pointer none, .pointer none]
  | B, .join c g a b => ∃ Ba Bb, Blk w B NT [.int .i64 (c : Int), .int .i64 0, .int .i64 (g : Int), .pointer (some ⟨Ba, 0, none⟩), .pointer (some ⟨Bb, 0, none⟩)] ∧ Rep NT w Ba a ∧ Rep NT w Bb b
theorem Rep.nk {NT : TypeId} {X Y : World} (h : NK NT X Y) : ∀ {t : HT} {B : Nat}, Rep NT X B t → Rep NT Y B t := by
  intro t
  induction t with
  | leaf c s => intro B hr; exact h _ _ hr
  | join c g a b iha ihb =>
    rintro B ⟨Ba, Bb, h1, h2, h3⟩
    exact ⟨Ba, Bb, h _ _ h1, iha h2, ihb h3⟩
/-- What can be read of any tree: count, symbol, age. -/
theorem Rep.key {NT : TypeId} {w : World} {t : HT} {B : Nat} (h : Rep NT w B t) : ∃ p q, Blk w B NT [.int .i64 (t.cnt : Int), .int .i64 (t.sym : Int), .int .i64 (t.age : Int), p, q] := by
  cases t with
  | leaf c s => exact ⟨_, _, h⟩
  | join c g a b =>
    obtain ⟨Ba, Bb, h1, _⟩ := h
    exact ⟨_, _, h1⟩
/-- The heap's elements: blocks and their trees. -/
def Reps (NT : TypeId) (w : World) (l : List (Nat × HT)) : Prop := ∀ p ∈ l, Rep NT w p.1 p.2
theorem Reps.nk {NT : TypeId} {X Y : World} (h : NK NT X Y) {l : List (Nat × HT)} (hr : Reps NT X l) : Reps NT Y l := fun p hp => (hr p hp).nk h
theorem Reps.perm {NT : TypeId} {w : World} {l l' : List (Nat × HT)} (hr : Reps NT w l) (p : l.Perm l') : Reps NT w l' := fun q hq => hr q (p.mem_iff.2 hq)
def plt (x y : Nat × HT) : Prop := klt x.2 y.2
theorem plt_ord : HOrd plt := ⟨fun x y => klt_ord.asym x.2 y.2, fun x y z => klt_ord.trans x.2 y.2 z.2⟩
/-- A pointer to a block. -/
def ptr (p : Nat × HT) : Value := .pointer (some ⟨p.1, 0, none⟩)
end Go.Proofs.Ytmfgkimbehkdeaa
