/-
  Small general lemmas for walks: equality of arrays of three integers; a class of later worlds for regions that draw their order and whose callees make memory; contracts carried over it. No program in sight.
-/
import Derived.WalkKit
import Derived.WalkSpells
import Derived.WalkLawsBesides
import Derived.Deep.QuietTactic
import Derived.BigQuiet
import Derived.Lib.Hide
namespace Go.Proofs.Ytammacofhdbgcaa
open Go.RowKit
set_option linter.unusedSimpArgs false
set_option linter.unusedVariables false

/-! Arrays of three integers -/
theorem run_part3 {P : Program} (e : TypeId) (k k' : IntKind) (he : P.underlying e = some (.int k')) (w : World) (x0 x1 x2 : Int) :
    (part e #[Value.int k x0, Value.int k x1, Value.int k x2] 0).run P w = .ok (Value.int k x0) w ∧
    (part e #[Value.int k x0, Value.int k x1, Value.int k x2] 1).run P w = .ok (Value.int k x1) w ∧
    (part e #[Value.int k x0, Value.int k x1, Value.int k x2] 2).run P w = .ok (Value.int k x2) w := by
  refine ⟨?_, ?_, ?_⟩ <;> simp [part, isAgg, run_underlying he]
theorem run_equalIn_arr3 {P : Program} (w : World) (d : Nat) (t e : TypeId) (k k' : IntKind) (a0 a1 a2 b0 b1 b2 : Int)
    (ht : P.underlying t = some (.array 3 e)) (he : P.underlying e = some (.int k')) (hs : (sizeOf e).run P w = .ok 1 w) :
    (Op.equalIn (d + 2) t (.agg #[.int k a0, .int k a1, .int k a2]) (.agg #[.int k b0, .int k b1, .int k b2])).run P w
      = .ok (a0 == b0 && a1 == b1 && a2 == b2) w := by
  have e3 : List.range' 0 3 1 = [0, 1, 2] := rfl
  have pa := run_part3 e k k' he w a0 a1 a2
  have pb := run_part3 e k k' he w b0 b1 b2
  rw [Op.equalIn]
  simp only [Sem.run_bind, run_underlying ht, Result.andThen_ok, hs]
  simp only [Std.Legacy.Range.forIn_eq_forIn_range', Std.Legacy.Range.size, e3, List.forIn_cons, List.forIn_nil, Sem.run_bind, Nat.zero_mul, Nat.one_mul, Nat.mul_one, pa.1, pa.2.1, pa.2.2, pb.1, pb.2.1, pb.2.2, Result.andThen_ok, run_equalIn_int w d e k k' _ _ he, Nat.sub_zero, Nat.add_sub_cancel, Nat.reduceAdd, Nat.reduceSub, Nat.reduceDiv, Nat.div_one]
  cases h0 : (a0 == b0) <;> cases h1 : (a1 == b1) <;> cases h2 : (a2 == b2) <;> simp [pa.1, pa.2.1, pa.2.2, pb.1, pb.2.1, pb.2.2, run_equalIn_int w d e k k' _ _ he, h0, h1, h2]

/-! The class of the worlds that are later than W: below W's size nothing has turned -/
def Later (W : World) : Type := { w : World // Below W.heap.size W w }
def Later.w {W : World} (x : Later W) : World := x.1
instance (W : World) : Nonempty (Later W) := ⟨⟨W, Below.refl _ _⟩⟩
theorem Later.cell? {W : World} (x : Later W) (b o : Nat) (h : b < W.heap.size) : x.w.cell? ⟨b, o, none⟩ = W.cell? ⟨b, o, none⟩ := x.2.cell (p := ⟨b, o, none⟩) h
theorem Later.frozen? {W : World} (x : Later W) (b o : Nat) (h : b < W.heap.size) : x.w.frozen? ⟨b, o, none⟩ = W.frozen? ⟨b, o, none⟩ := x.2.frozen (p := ⟨b, o, none⟩) h
theorem wp_region_later {P : Program} {id : Nat} {Q : Exit → Act → World → Prop} {a : Act} {W : World} {l : List Oper} (hm : P.follows .mixedOrders = true) (hB : Region.lexB .any l.toArray = true)
    (h : wpQuiet P l.toArray (fun w' => ∃ x : Later W, w' = x.w) (fun a' => ∀ w', Below W.heap.size W w' → Q .normal a' w') l a) : (Code.region id l.toArray true).wp P Q a W := by
  refine wp_region_quiet (C := fun w' => ∃ x : Later W, w' = x.w) hm hB ⟨⟨_, (Below.refl _ W).drew⟩, rfl⟩ ?_
  have e : (fun a' => ∀ w', (∃ x : Later W, w' = x.w) → Q .normal a' w') = (fun a' => ∀ w', Below W.heap.size W w' → Q .normal a' w') := by
    funext a'
    apply propext
    exact ⟨fun h w' hb => h w' ⟨⟨w', hb⟩, rfl⟩, fun h w' ⟨x, hx⟩ => hx ▸ h _ x.2⟩
  rw [e]
  simpa using h
theorem wp_region_later1 {P : Program} {id : Nat} {Q : Exit → Act → World → Prop} {a : Act} {W : World} {l : List Oper} (hm : P.follows .mixedOrders = true) (hB : Region.lexB .any l.toArray = true)
    (h : (∀ (x : Later W) b o, b < W.heap.size → x.w.cell? ⟨b, o, none⟩ = W.cell? ⟨b, o, none⟩) → wpQuiet P l.toArray (fun w' => ∃ x : Later W, w' = x.w) (fun a' => ∀ w', Below W.heap.size W w' → Q .normal a' w') l a) : (Code.region id l.toArray true).wp P Q a W :=
  wp_region_later hm hB (h fun x b o hb => x.cell? b o hb)
theorem wp_region_later2 {P : Program} {id : Nat} {Q : Exit → Act → World → Prop} {a : Act} {W wp : World} {l : List Oper} {N : Nat → Prop} (HA : ∀ n, N n → n < wp.heap.size) (hle : wp.heap.size ≤ W.heap.size) (hm : P.follows .mixedOrders = true) (hB : Region.lexB .any l.toArray = true)
    (h : (∀ (x : Later W) b o, (N b ∨ b < W.heap.size) → x.w.cell? ⟨b, o, none⟩ = W.cell? ⟨b, o, none⟩) → wpQuiet P l.toArray (fun w' => ∃ x : Later W, w' = x.w) (fun a' => ∀ w', Below W.heap.size W w' → Q .normal a' w') l a) : (Code.region id l.toArray true).wp P Q a W :=
  wp_region_later hm hB (h fun x b o hb => x.cell? b o (hb.elim (fun h => Nat.lt_of_lt_of_le (HA b h) hle) (fun h => h)))
theorem Calls.later_of {P : Program} {f : FuncId} {args : Array Value} {W : World} {x : Later W} {v : Value}
    (h : Calls P f args x.w fun e w' => e = .returned v ∧ Below x.w.heap.size x.w w') : Calls P f args x.w fun e w'' => e = .returned v ∧ ∃ y : Later W, w'' = y.w :=
  h.mono fun _ _ ⟨he, hm⟩ => ⟨he, ⟨_, x.2.trans (hm.mono x.2.size)⟩, rfl⟩
theorem Calls.below_of_same {P : Program} {f : FuncId} {args : Array Value} {w : World} {v : Value}
    (h : Calls P f args w fun e w' => e = .returned v ∧ w = w') : Calls P f args w fun e w' => e = .returned v ∧ Below w.heap.size w w' :=
  h.mono fun _ _ ⟨he, hm⟩ => ⟨he, hm ▸ Below.refl _ _⟩
/-- What is below: old cells and marks read as before. -/
theorem bcell {W w1 : World} (hb : Below W.heap.size W w1) : (∀ b o, b < W.heap.size → w1.cell? ⟨b, o, none⟩ = W.cell? ⟨b, o, none⟩) ∧ (∀ b o, b < W.heap.size → w1.frozen? ⟨b, o, none⟩ = W.frozen? ⟨b, o, none⟩) :=
  ⟨fun b o h => hb.cell (p := ⟨b, o, none⟩) h, fun b o h => hb.frozen (p := ⟨b, o, none⟩) h⟩
/-- The same with what it says of sizes, in the forms that a walk meets; the conditions are flat: what was known of older blocks is carried in P. -/
theorem blater1 {W w1 : World} (hb : Below W.heap.size W w1) : (∀ b o, b < W.heap.size → w1.cell? ⟨b, o, none⟩ = W.cell? ⟨b, o, none⟩) ∧ (∀ b o, b < W.heap.size → w1.frozen? ⟨b, o, none⟩ = W.frozen? ⟨b, o, none⟩) ∧
    (∀ n, n < W.heap.size → n < w1.heap.size) ∧ (∀ n, n < W.heap.size → ¬ n = w1.heap.size) ∧ (∀ n, n < W.heap.size → ¬ w1.heap.size = n) :=
  ⟨fun b o h => hb.cell (p := ⟨b, o, none⟩) h, fun b o h => hb.frozen (p := ⟨b, o, none⟩) h, fun n h => Nat.lt_of_lt_of_le h hb.size, fun n h e => by have := hb.size; omega, fun n h e => by have := hb.size; omega⟩
theorem blater2 {P : Nat → Prop} {wp W w1 : World} (HA : ∀ n, P n → n < wp.heap.size) (hle : wp.heap.size ≤ W.heap.size) (hb : Below W.heap.size W w1) :
    (∀ b o, (P b ∨ b < W.heap.size) → w1.cell? ⟨b, o, none⟩ = W.cell? ⟨b, o, none⟩) ∧ (∀ b o, (P b ∨ b < W.heap.size) → w1.frozen? ⟨b, o, none⟩ = W.frozen? ⟨b, o, none⟩) ∧
    (∀ n, (P n ∨ n < W.heap.size) → n < w1.heap.size) ∧ (∀ n, (P n ∨ n < W.heap.size) → ¬ n = w1.heap.size) ∧ (∀ n, (P n ∨ n < W.heap.size) → ¬ w1.heap.size = n) := by
  have key : ∀ n, (P n ∨ n < W.heap.size) → n < W.heap.size := fun n h => h.elim (fun h => Nat.lt_of_lt_of_le (HA n h) hle) id
  obtain ⟨h1, h2, h3, h4, h5⟩ := blater1 hb
  exact ⟨fun b o h => h1 b o (key b h), fun b o h => h2 b o (key b h), fun n h => h3 n (key n h), fun n h => h4 n (key n h), fun n h => h5 n (key n h)⟩
theorem below_drewN {B : Nat} {a w : World} (h : Below B a w) (n : Nat) : Below B a (w.drewN n) := ⟨h.os, h.tape, h.output, h.size, h.block⟩
end Go.Proofs.Ytammacofhdbgcaa
