/-
  General lemmas for walks: slices, ranges over functions, blocks, appends; no program in sight but for the kit's small functions.
-/
import Derived.WalkKit
import Derived.WalkSpells
import Derived.WalkLawsBesides
import Derived.Deep.QuietTactic
import Derived.BigQuiet
import Derived.Lib.Hide
import Derived.Test.YtmfgkimbehkdeaaRows
import Derived.Deep.Light
import Derived.RangeFuncNested
import Derived.RangeFuncBound
import Derived.RangeFuncCalls
import Derived.RangeFuncLeaves
import Derived.OwnWalk
import Derived.Laws.OwnMore
import Derived.Maps.OwnIn
import Derived.Deep.AppendSrc
import Derived.Deep.Slices
import Derived.Deep.Fields
namespace Go.Proofs.Ytmfgkimbehkdeaa
open Go.RowKit
set_option linter.unusedSimpArgs false
set_option linter.unusedVariables false

/-! Arrays of three integers -/
theorem run_part3 {P : Program} (e : TypeId) (k k' : IntKind) (he : P.underlying e = some (.int k')) (w : World) (x0 x1 x2 : Int) :
    (part e #[Value.int k x0, Value.int k x1, Value.int k x2] 0).run P w = .ok (Value.int k x0) w ∧
    (part e #[Value.int k x0, Value.int k x1, Value.int k x2] 1).run P w = .ok (Value.int k x1) w ∧
    (part e #[Value.int k x0, Value.int k x1, Value.int k x2] 2).run P w = .ok (Value.int k x2) w := by
  refine ⟨?_, ?_, ?_⟩ <;> simp [part, isAgg, run_underlying he]
theorem run_equalIn_arr3 {P : Program} (w : World) (d : Nat) (t e : TypeId) (k k' : IntKind) (a0 a1 a2 b0 b1 b2 : Int)
    (ht : P.underlying t = some (.array 3 e)) (he : P.underlying e = some (.int k')) (hs : (sizeOf e).run P w = .ok 1 w) :
    (Op.equalIn (d + 2) t (.agg #[.int k a0, .int k a1, .int k a2]) (.agg #[.int k b0, .int k b1, .int k b2])).run P w
      = .ok (a0 == b0 && a1 == b1 && a2 == b2) w := by
  have e3 : List.range' 0 3 1 = [0, 1, 2] := rfl
  have pa := run_part3 e k k' he w a0 a1 a2
  have pb := run_part3 e k k' he w b0 b1 b2
  rw [Op.equalIn]
  simp only [Sem.run_bind, run_underlying ht, Result.andThen_ok, hs]
  simp only [Std.Legacy.Range.forIn_eq_forIn_range', Std.Legacy.Range.size, e3, List.forIn_cons, List.forIn_nil, Sem.run_bind, Nat.zero_mul, Nat.one_mul, Nat.mul_one, pa.1, pa.2.1, pa.2.2, pb.1, pb.2.1, pb.2.2, Result.andThen_ok, run_equalIn_int w d e k k' _ _ he, Nat.sub_zero, Nat.add_sub_cancel, Nat.reduceAdd, Nat.reduceSub, Nat.reduceDiv, Nat.div_one]
  cases h0 : (a0 == b0) <;> cases h1 : (a1 == b1) <;> cases h2 : (a2 == b2) <;> simp [pa.1, pa.2.1, pa.2.2, pb.1, pb.2.1, pb.2.2, run_equalIn_int w d e k k' _ _ he, h0, h1, h2]

/-! The class of the worlds that are later than W: below W's size nothing has turned -/
def Later (W : World) : Type := { w : World // Below W.heap.size W w }
def Later.w {W : World} (x : Later W) : World := x.1
instance (W : World) : Nonempty (Later W) := ⟨⟨W, Below.refl _ _⟩⟩
theorem Later.cell? {W : World} (x : Later W) (b o : Nat) (h : b < W.heap.size) : x.w.cell? ⟨b, o, none⟩ = W.cell? ⟨b, o, none⟩ := x.2.cell (p := ⟨b, o, none⟩) h
theorem Later.frozen? {W : World} (x : Later W) (b o : Nat) (h : b < W.heap.size) : x.w.frozen? ⟨b, o, none⟩ = W.frozen? ⟨b, o, none⟩ := x.2.frozen (p := ⟨b, o, none⟩) h
theorem wp_region_later {P : Program} {id : Nat} {Q : Exit → Act → World → Prop} {a : Act} {W : World} {l : List Oper} (hm : P.follows .mixedOrders = true) (hB : Region.lexB .any l.toArray = true)
    (h : wpQuiet P l.toArray (fun w' => ∃ x : Later W, w' = x.w) (fun a' => ∀ w', Below W.heap.size W w' → Q .normal a' w') l a) : (Code.region id l.toArray true).wp P Q a W := by
  refine wp_region_quiet (C := fun w' => ∃ x : Later W, w' = x.w) hm hB ⟨⟨_, (Below.refl _ W).drew⟩, rfl⟩ ?_
  have e : (fun a' => ∀ w', (∃ x : Later W, w' = x.w) → Q .normal a' w') = (fun a' => ∀ w', Below W.heap.size W w' → Q .normal a' w') := by
    funext a'
    apply propext
    exact ⟨fun h w' hb => h w' ⟨⟨w', hb⟩, rfl⟩, fun h w' ⟨x, hx⟩ => hx ▸ h _ x.2⟩
  rw [e]
  simpa using h
theorem wp_region_later1 {P : Program} {id : Nat} {Q : Exit → Act → World → Prop} {a : Act} {W : World} {l : List Oper} (hm : P.follows .mixedOrders = true) (hB : Region.lexB .any l.toArray = true)
    (h : (∀ (x : Later W) b o, b < W.heap.size → x.w.cell? ⟨b, o, none⟩ = W.cell? ⟨b, o, none⟩) → wpQuiet P l.toArray (fun w' => ∃ x : Later W, w' = x.w) (fun a' => ∀ w', Below W.heap.size W w' → Q .normal a' w') l a) : (Code.region id l.toArray true).wp P Q a W :=
  wp_region_later hm hB (h fun x b o hb => x.cell? b o hb)
theorem wp_region_later2 {P : Program} {id : Nat} {Q : Exit → Act → World → Prop} {a : Act} {W wp : World} {l : List Oper} {N : Nat → Prop} (HA : ∀ n, N n → n < wp.heap.size) (hle : wp.heap.size ≤ W.heap.size) (hm : P.follows .mixedOrders = true) (hB : Region.lexB .any l.toArray = true)
    (h : (∀ (x : Later W) b o, (N b ∨ b < W.heap.size) → x.w.cell? ⟨b, o, none⟩ = W.cell? ⟨b, o, none⟩) → wpQuiet P l.toArray (fun w' => ∃ x : Later W, w' = x.w) (fun a' => ∀ w', Below W.heap.size W w' → Q .normal a' w') l a) : (Code.region id l.toArray true).wp P Q a W :=
  wp_region_later hm hB (h fun x b o hb => x.cell? b o (hb.elim (fun h => Nat.lt_of_lt_of_le (HA b h) hle) (fun h => h)))
theorem Calls.later_of {P : Program} {f : FuncId} {args : Array Value} {W : World} {x : Later W} {v : Value}
    (h : Calls P f args x.w fun e w' => e = .returned v ∧ Below x.w.heap.size x.w w') : Calls P f args x.w fun e w'' => e = .returned v ∧ ∃ y : Later W, w'' = y.w :=
  h.mono fun _ _ ⟨he, hm⟩ => ⟨he, ⟨_, x.2.trans (hm.mono x.2.size)⟩, rfl⟩
theorem Calls.below_of_same {P : Program} {f : FuncId} {args : Array Value} {w : World} {v : Value}
    (h : Calls P f args w fun e w' => e = .returned v ∧ w = w') : Calls P f args w fun e w' => e = .returned v ∧ Below w.heap.size w w' :=
  h.mono fun _ _ ⟨he, hm⟩ => ⟨he, hm ▸ Below.refl _ _⟩
/-- What is below: old cells and marks read as before. -/
theorem bcell {W w1 : World} (hb : Below W.heap.size W w1) : (∀ b o, b < W.heap.size → w1.cell? ⟨b, o, none⟩ = W.cell? ⟨b, o, none⟩) ∧ (∀ b o, b < W.heap.size → w1.frozen? ⟨b, o, none⟩ = W.frozen? ⟨b, o, none⟩) :=
  ⟨fun b o h => hb.cell (p := ⟨b, o, none⟩) h, fun b o h => hb.frozen (p := ⟨b, o, none⟩) h⟩
/-- The same with what it says of sizes, in the forms that a walk meets; the conditions are flat: what was known of older blocks is carried in P. -/
theorem blater1 {W w1 : World} (hb : Below W.heap.size W w1) : (∀ b o, b < W.heap.size → w1.cell? ⟨b, o, none⟩ = W.cell? ⟨b, o, none⟩) ∧ (∀ b o, b < W.heap.size → w1.frozen? ⟨b, o, none⟩ = W.frozen? ⟨b, o, none⟩) ∧
    (∀ n, n < W.heap.size → n < w1.heap.size) ∧ (∀ n, n < W.heap.size → ¬ n = w1.heap.size) ∧ (∀ n, n < W.heap.size → ¬ w1.heap.size = n) :=
  ⟨fun b o h => hb.cell (p := ⟨b, o, none⟩) h, fun b o h => hb.frozen (p := ⟨b, o, none⟩) h, fun n h => Nat.lt_of_lt_of_le h hb.size, fun n h e => by have := hb.size; omega, fun n h e => by have := hb.size; omega⟩
theorem blater2 {P : Nat → Prop} {wp W w1 : World} (HA : ∀ n, P n → n < wp.heap.size) (hle : wp.heap.size ≤ W.heap.size) (hb : Below W.heap.size W w1) :
    (∀ b o, (P b ∨ b < W.heap.size) → w1.cell? ⟨b, o, none⟩ = W.cell? ⟨b, o, none⟩) ∧ (∀ b o, (P b ∨ b < W.heap.size) → w1.frozen? ⟨b, o, none⟩ = W.frozen? ⟨b, o, none⟩) ∧
    (∀ n, (P n ∨ n < W.heap.size) → n < w1.heap.size) ∧ (∀ n, (P n ∨ n < W.heap.size) → ¬ n = w1.heap.size) ∧ (∀ n, (P n ∨ n < W.heap.size) → ¬ w1.heap.size = n) := by
  have key : ∀ n, (P n ∨ n < W.heap.size) → n < W.heap.size := fun n h => h.elim (fun h => Nat.lt_of_lt_of_le (HA n h) hle) id
  obtain ⟨h1, h2, h3, h4, h5⟩ := blater1 hb
  exact ⟨fun b o h => h1 b o (key b h), fun b o h => h2 b o (key b h), fun n h => h3 n (key n h), fun n h => h4 n (key n h), fun n h => h5 n (key n h)⟩
theorem below_drewN {B : Nat} {a w : World} (h : Below B a w) (n : Nat) : Below B a (w.drewN n) := ⟨h.os, h.tape, h.output, h.size, h.block⟩
end Go.Proofs.Ytmfgkimbehkdeaa
namespace Go.Proofs.Ytmfgkimbehkdeaa
open Go.RowKit
set_option linter.unusedSimpArgs false
set_option linter.unusedVariables false
/-- The slice's address leads to a row whose first cells are these integers (nothing is said of the address of an empty list). -/
def Row (k : IntKind) (w : World) (a : Option Addr) (xs : List Int) : Prop :=
  xs = [] ∨ ∃ b off, a = some ⟨b, off, none⟩ ∧ b < w.heap.size ∧ ∀ i, i < xs.length → w.cell? ⟨b, off + i, none⟩ = some (.int k (xs.getD i 0))
theorem Row.nil (k : IntKind) (w : World) (a : Option Addr) : Row k w a [] := .inl rfl
theorem Row.later {k : IntKind} {w w' : World} {a : Option Addr} {xs : List Int} (h : Row k w a xs) (hb : Below w.heap.size w w') : Row k w' a xs := by
  rcases h with h | ⟨b, off, ha, hlt, hc⟩
  · exact .inl h
  · exact .inr ⟨b, off, ha, Nat.lt_of_lt_of_le hlt hb.size, fun i hi => (hb.cell (p := ⟨b, off + i, none⟩) hlt).trans (hc i hi)⟩
theorem Row.drewN {k : IntKind} {w : World} {a : Option Addr} {xs : List Int} (h : Row k w a xs) (n : Nat) : Row k (w.drewN n) a xs := h.later (below_drewN (Below.refl _ _) n)
theorem Row.at {k : IntKind} {w : World} {a : Option Addr} {xs : List Int} (h : Row k w a xs) {i : Nat} (hi : i < xs.length) :
    ∃ b off, a = some ⟨b, off, none⟩ ∧ b < w.heap.size ∧ ∀ i, i < xs.length → w.cell? ⟨b, off + i, none⟩ = some (.int k (xs.getD i 0)) := by
  rcases h with h | h
  · subst h; simp at hi
  · exact h
/-- What is owned stays owned where nothing below has turned. -/
theorem ownsRow_later {w w' : World} {base : Nat} {e : TypeId} {size : Nat} {v : Value} {n : Nat} {xs : List Value} (h : w.ownsRow base e size v n xs) (hb : Below w.heap.size w w') : w'.ownsRow base e size v n xs := by
  obtain ⟨h1, h2⟩ := h
  refine ⟨h1, ?_⟩
  rcases h2 with h2 | ⟨g, cap, cur, hv, hg, hh, r⟩
  · exact .inl h2
  · exact .inr ⟨g, cap, cur, hv, hg, by rw [hb.block g (Array.getElem?_eq_some_iff.1 hh).1]; exact hh, r⟩
/-- What an owned row is, as a row that is read. -/
theorem Row.of_own {k : IntKind} {w : World} {base : Nat} {e : TypeId} {v : Value} {n : Nat} {xs : List Int} (h : w.ownsRow base e 1 v n (xs.map (Value.int k))) :
    ∃ a cap, v = .slice a xs.length cap ∧ n = xs.length ∧ Row k w a xs := by
  obtain ⟨hl, h⟩ := h
  simp at hl
  rcases h with ⟨rfl, rfl⟩ | ⟨g, cap, cur, rfl, hg, hh, hn, hm, hs, ht⟩
  · have : xs = [] := by simpa using hl
    subst this
    exact ⟨none, 0, rfl, rfl, .inl rfl⟩
  · refine ⟨_, cap, by rw [hl], hl.symm, .inr ⟨g, 0, rfl, (Array.getElem?_eq_some_iff.1 hh).1, fun i hi => ?_⟩⟩
    have h1 : w.cell? ⟨g, 0 + i, none⟩ = cur[i]? := by simp [World.cell?, hh]
    rw [h1, ← Array.getElem?_toList]
    have h2 : (cur.toList.take (n * 1))[i]? = cur.toList[i]? := by rw [List.getElem?_take]; rw [if_pos (by omega)]
    rw [← h2, ht]
    simp [hi]
theorem Row.of_own_slice {k : IntKind} {w : World} {base : Nat} {e : TypeId} {a : Option Addr} {n m cap : Nat} {xs : List Int} (h : w.ownsRow base e 1 (.slice a m cap) n (xs.map (Value.int k))) : Row k w a xs := by
  obtain ⟨a', cap', hv, _, hr⟩ := Row.of_own h
  cases hv
  exact hr
/-- Equal so far. -/
theorem take_succ_eq {xs ys : List Int} {k : Nat} (h : xs.take k = ys.take k) (hx : k < xs.length) (hy : k < ys.length) (he : xs.getD k 0 = ys.getD k 0) : xs.take (k + 1) = ys.take (k + 1) := by
  rw [List.take_succ_eq_append_getElem hx, List.take_succ_eq_append_getElem hy, h]
  simp [hx, hy] at he
  rw [he]
set_option maxHeartbeats 1000000 in
theorem sameInts_k (a b : Option Addr) (xs ys : List Int) (ca cb : Nat) (w : World) (ha : Row .i64 w a xs) (hb : Row .i64 w b ys) (hl : xs.length ≤ 9223372036854775807) :
    Calls Try.prog 14 #[.slice a xs.length ca, .slice b ys.length cb] w fun e w' => e = .returned (.bool (decide (xs = ys))) ∧ Below w.heap.size w w' := by
  by_cases hn : xs.length = ys.length
  · go_enter Try.func14, Try.ntmps14
    have HN := Lib.hid hn
    have hn1 : ((xs.length : Int) != (ys.length : Int)) = false := by rw [hn]; simp
    have hn2 : ys.length ≤ 9223372036854775807 := by omega
    clear hn
    go_wp2
    clear hn1
    go_loopw [5] (fun i wr => ∃ k : Nat, k ≤ xs.length ∧ i = .int .i64 k ∧ Hid (xs.take k = ys.take k) ∧ Below w.heap.size w wr) (fun i _ => xs.length - (intOf i).toNat)
    case atStart => exact ⟨0, by omega, rfl, rfl, Below.refl _ _⟩
    case round =>
      obtain ⟨k, hk, rfl, HQ, hbw⟩ := hrel
      by_cases hlt : k < xs.length
      · have hlt2 : k < ys.length := by have := HN.out; omega
        obtain ⟨b1, o1, rfl, hb1, hc1⟩ := (ha.later hbw).at hlt
        obtain ⟨b2, o2, rfl, hb2, hc2⟩ := (hb.later hbw).at hlt2
        have c1 := hc1 k hlt
        have c2 := hc2 k hlt2
        obtain ⟨x, hx⟩ : ∃ x, xs.getD k 0 = x := ⟨_, rfl⟩
        obtain ⟨y, hy⟩ : ∃ y, ys.getD k 0 = y := ⟨_, rfl⟩
        rw [hx] at c1
        rw [hy] at c2
        have HX := Lib.hid hx
        have HY := Lib.hid hy
        clear hc1 hc2 hx hy ha hb
        have i1 : (k : Int) < (xs.length : Int) := by omega
        have i2 : (k : Int) < (ys.length : Int) := by omega
        have i0 : (0 : Int) ≤ (k : Int) := by omega
        go_wp2
        go_quiet (fail)
        go_wp2
        · go_ret
          have hne : ¬ xs = ys := by
            intro he
            subst he
            have hxy : x = y := by rw [← HX.out, ← HY.out]
            simp [hxy] at *
          exact ⟨by rw [decide_eq_false hne]; rfl, below_drewN hbw _⟩
        · have hxy : x = y := by simp at *; assumption
          go_roundw
          case rel => exact ⟨k + 1, by omega, by go_num, take_succ_eq HQ.out hlt hlt2 (by rw [HX.out, HY.out, hxy]), below_drewN hbw _⟩
          case measure => go_light; simp [intOf]; omega
      · have hkk : k = xs.length := by omega
        have he : xs = ys := by
          have h1 := HQ.out
          have h2 := HN.out
          rw [List.take_of_length_le (by omega), List.take_of_length_le (by omega)] at h1
          exact h1
        have HE := Lib.hid he
        clear he hkk
        go_wp2
        go_ret
        exact ⟨by rw [decide_eq_true HE.out]; rfl, hbw⟩
  · have hne : ¬ xs = ys := fun h => hn (by rw [h])
    have HE := Lib.hid hne
    have hn1 : ((xs.length : Int) != (ys.length : Int)) = true := by simp; omega
    clear hn hne
    go_enter Try.func14, Try.ntmps14
    go_wp2
    go_ret
    exact ⟨by rw [decide_eq_false HE.out]; rfl, Below.refl _ _⟩
end Go.Proofs.Ytmfgkimbehkdeaa
namespace Go.Proofs.Ytmfgkimbehkdeaa
open Go.RowKit
set_option linter.unusedSimpArgs false
set_option linter.unusedVariables false
/-- From A to A': what is cells, and what lies below B, lies as it lay; other blocks at or beyond B may have turned; new blocks. -/
structure Keep (B : Nat) (A A' : World) : Prop where
  os : A'.os = A.os
  tape : A'.tape = A.tape
  output : A'.output = A.output
  size : A.heap.size ≤ A'.heap.size
  block : ∀ (k : Nat) (o : Obj), A.heap[k]? = some o → (k < B ∨ o.isCells = true) → A'.heap[k]? = some o
theorem Keep.refl (B : Nat) (A : World) : Keep B A A := ⟨rfl, rfl, rfl, Nat.le_refl _, fun _ _ h _ => h⟩
theorem Keep.trans {B : Nat} {X Y Z : World} (h : Keep B X Y) (k : Keep B Y Z) : Keep B X Z :=
  ⟨k.os.trans h.os, k.tape.trans h.tape, k.output.trans h.output, Nat.le_trans h.size k.size, fun i o hi ho => k.block i o (h.block i o hi ho) ho⟩
theorem Keep.of_below {B : Nat} {A A' : World} (h : Below A.heap.size A A') : Keep B A A' :=
  ⟨h.os, h.tape, h.output, h.size, fun k o hk _ => (h.block k (Array.getElem?_eq_some_iff.1 hk).1).trans hk⟩
theorem Keep.putObj {B : Nat} {A : World} {r : Nat} {o : Obj} (o' : Obj) (hB : B ≤ r) (h : A.heap[r]? = some o) (hc : o.isCells = false) : Keep B A (A.putObj r o') :=
  ⟨rfl, rfl, rfl, by simp [World.putObj], fun k o'' hk ho => by
    by_cases e : k = r
    · subst e
      rw [h] at hk; cases hk
      rcases ho with ho | ho
      · omega
      · rw [hc] at ho; cases ho
    · exact (World.putObj_heap_other e).trans hk⟩
theorem Keep.cell {B : Nat} {A A' : World} (h : Keep B A A') {a : Addr} {v : Value} (hc : A.cell? a = some v) : A'.cell? a = some v := by
  unfold World.cell? at hc ⊢
  cases ho : A.heap[a.block]? with
  | none => simp [ho] at hc
  | some o =>
    cases o <;> simp [ho] at hc
    rw [h.block _ _ ho (.inr rfl)]
    simpa using hc
theorem Keep.frozen {B : Nat} {A A' : World} (h : Keep B A A') {a : Addr} {v : Value} (hc : A.cell? a = some v) : A'.frozen? a = A.frozen? a := by
  unfold World.cell? at hc
  unfold World.frozen?
  cases ho : A.heap[a.block]? with
  | none => simp [ho] at hc
  | some o =>
    cases o <;> simp [ho] at hc
    rw [h.block _ _ ho (.inr rfl)]
theorem Keep.ownsRow {B : Nat} {A A' : World} (h : Keep B A A') {base : Nat} {e : TypeId} {size : Nat} {v : Value} {n : Nat} {xs : List Value} (ho : A.ownsRow base e size v n xs) : A'.ownsRow base e size v n xs := by
  obtain ⟨h1, h2⟩ := ho
  refine ⟨h1, ?_⟩
  rcases h2 with h2 | ⟨g, cap, cur, hv, hg, hh, r⟩
  · exact .inl h2
  · exact .inr ⟨g, cap, cur, hv, hg, h.block _ _ hh (.inr rfl), r⟩
theorem Keep.below {B B' : Nat} {X A A' : World} (h : Keep B A A') (hb : Below B' X A) (h1 : B' ≤ B) (h2 : B' ≤ A.heap.size) : Below B' X A' :=
  hb.trans ⟨h.os, h.tape, h.output, h.size, fun k hk => by
    have hlt : k < A.heap.size := by omega
    rw [h.block k _ (Array.getElem?_eq_getElem hlt) (.inl (by omega)), Array.getElem?_eq_getElem hlt]⟩
theorem keepsFrom_of_below {B : Nat} {W W' : World} (h : Below W.heap.size W W') : KeepsFrom B W W' :=
  ⟨h.size, fun k o _ hk _ => (h.block k (Array.getElem?_eq_some_iff.1 hk).1).trans hk⟩
/-- One call of yield in a round's frame: it goes on, and Jn holds; or it has said no more, and Jx holds. -/
def RoundOk (P : Program) (l : Nat) (args : Array Value) (W : World) (Jn Jx : World → Prop) : Prop :=
  YieldAt Fence.wide 0 P l args W fun e W' => (e = .returned (.bool true) ∧ Jn W') ∨ (e = .returned (.bool false) ∧ Jx W')
/-- How a round's body may be left. -/
def rangeOut (B : Nat) (W : World) (I : World → Prop) (Ix : Code → World → Prop) : Exit → Act → World → Prop
  | .normal, _, W' => KeepsFrom B W W' ∧ I W'
  | .ret, _, W' => KeepsFrom B W W' ∧ Ix .ret W'
  | .exit id, _, W' => KeepsFrom B W W' ∧ Ix (.exit id) W'
  | .goto t, _, W' => KeepsFrom B W W' ∧ Ix (.goto t) W'
  | .panic _, _, _ => False
  | .outgrown, _, _ => False
/-- THE LAW. I i: what holds when i rounds are over; Ix c: a round has left by the jump c; A i a W: behind the assignment of the i-th element. -/
theorem wp_range {P : Program} {g : Operand} {ps : Array Tmp} {assign body : Code} {Q : Exit → Act → World → Prop} {a : Act} {w : World}
    {gf : Nat} {lb : Array Value} (hg : a.eval g = .func (.func gf) #[] lb) (eg : ∀ args w, (callFunc gf args).run P w = .ok (.enter gf args) w)
    (N : Nat) (xs : Nat → Array Value) (hps : ∀ i, (xs i).size = ps.size)
    (I : Nat → World → Prop) (Ix : Code → World → Prop) (A : Nat → Act → World → Prop)
    (hI : ∀ i X Y, Keep w.heap.size X Y → I i X → I i Y) (hIx : ∀ c X Y, Keep w.heap.size X Y → Ix c X → Ix c Y) (hA : ∀ i a' X Y, Keep w.heap.size X Y → A i a' X → A i a' Y)
    (h0 : I 0 w)
    (hassign : ∀ i W, i < N → I i W → assign.wpIn (Fence.wide.inRound (w.heap.size + 1)) 0 P (Exit.then (fun a₁ W1 => KeepsFrom w.heap.size W W1 ∧ A i a₁ W1) (fun _ _ _ => False))
      { tmps := (ps.zip (xs i)).foldl (fun t (p, v) => t.setIfInBounds p v) a.tmps, defers := [] } W)
    (hbody : ∀ i a₁ W, i < N → w.heap.size + 1 < W.heap.size → A i a₁ W → body.wpIn (Fence.wide.inRound (w.heap.size + 1)) 0 P (rangeOut w.heap.size W (I (i + 1)) Ix) a₁ W)
    (hiter : ∀ (l : Nat) (J : Nat → World → Prop) (Jx : World → Prop) (W : World), Below w.heap.size w W → (∀ i X Y, Below X.heap.size X Y → J i X → J i Y) → (∀ i X, J i X → I i X) → (∀ X, Jx X → ∃ c, Ix c X) →
      (∀ i X, i < N → J i X → RoundOk P l (xs i) X (J (i + 1)) Jx) → J 0 W →
      Calls P gf (#[.func (.yield l) #[] #[]] ++ lb) W fun e W' => (∃ v, e = .returned v) ∧ (J N W' ∨ Jx W'))
    (hdone : ∀ D W, w.heap.size ≤ D → I N W → W.heap[D]? = some (.deferred (some [])) → Q .normal { a with defers := { target := .collected D, args := #[] } :: a.defers } W)
    (hstop : ∀ D c W, w.heap.size ≤ D → Ix c W → W.heap[D]? = some (.deferred (some [])) → c.wp P Q { a with defers := { target := .collected D, args := #[] } :: a.defers } W) :
    (Code.rangeFunc g ps assign body).wp P Q a w := by
  refine wpIn_wide (n := 0) |>.1 (wpIn_rangeFunc ?_)
  intro fn hfn
  obtain ⟨rc, hrc⟩ : ∃ rc : LoopState → Option Code → Loop, rc = fun st pe => { state := st, pending := pe, fn, tmps := a.tmps, params := ps, assign, body, defers := w.heap.size } := ⟨_, rfl⟩
  obtain ⟨W1, hW1⟩ : ∃ W1, (w.alloc (.deferred (some []))).alloc (.loop (rc .ready none)) = W1 := ⟨_, rfl⟩
  have hL1 : W1.heap[w.heap.size + 1]? = some (.loop (rc .ready none)) := by
    rw [← hW1]; have := heap_alloc_new (w.alloc (.deferred (some []))) (.loop (rc .ready none)); rwa [World.size_alloc] at this
  have hD1 : W1.heap[w.heap.size]? = some (.deferred (some [])) := by
    rw [← hW1]; exact (Below.heap_alloc _ _ _ (by simp)).trans (heap_alloc_new w _)
  have hb1 : Below w.heap.size w W1 := by
    rw [← hW1]; exact ((Below.refl _ w).alloc (Nat.le_refl _) _).alloc (by simp) _
  have hI1 : I 0 W1 := hI 0 w W1 (Keep.of_below hb1) h0
  refine ⟨w.heap.size + 1, [{ target := .collected w.heap.size, args := #[] }], W1, { target := .fn (.func gf) lb, args := #[.func (.yield (w.heap.size + 1)) #[] #[]] }, W1, gf,
    #[.func (.yield (w.heap.size + 1)) #[] #[]] ++ lb, W1, ?_, ?_, fun _ _ => trivial, ?_, fun h => by simp [Fence.wide] at h, ?_⟩
  · rw [← hW1, hrc]; exact run_enterLoop_outer _ _ _ _ _
  · simp only [resolve, hg]
    simp [go_sem]
  · simp [invoke, go_sem, eg]
  · refine callsIn_wide.2 ((hiter (w.heap.size + 1)
      (fun i W => I i W ∧ W.heap[w.heap.size + 1]? = some (.loop (rc .ready none)) ∧ W.heap[w.heap.size]? = some (.deferred (some [])))
      (fun W => ∃ c, Ix c W ∧ W.heap[w.heap.size + 1]? = some (.loop (rc .done (some c))) ∧ W.heap[w.heap.size]? = some (.deferred (some [])))
      W1 hb1 ?_ (fun i X h => h.1) (fun X ⟨c, h, _⟩ => ⟨c, h⟩) ?_ ⟨hI1, hL1, hD1⟩).mono ?_)
    · rintro i X Y hb ⟨h1, h2, h3⟩
      exact ⟨hI i X Y (Keep.of_below hb) h1, (hb.block _ (Array.getElem?_eq_some_iff.1 h2).1).trans h2, (hb.block _ (Array.getElem?_eq_some_iff.1 h3).1).trans h3⟩
    · rintro i W hi ⟨hi1, hl, hd⟩
      have hy := run_yield (P := P) (args := xs i) hl (by rw [hrc]; exact hps i)
      rw [hrc] at hy
      refine ⟨fn, _, assign, body, hy, roundIn_of_wpIn trivial (wpIn_mono (hassign i W hi hi1) ?_)⟩
      clear hy
      rintro e a₁ Wa hq
      cases e with
      | normal =>
        obtain ⟨hkf, ha⟩ := hq
        have hla := hkf.same _ _ (by omega) hl rfl
        have hda := hkf.same _ _ (Nat.le_refl _) hd rfl
        have hlt : w.heap.size + 1 < Wa.heap.size := (Array.getElem?_eq_some_iff.1 hla).1
        refine ⟨_, run_beginRound hla (by rw [hrc]), ?_⟩
        obtain ⟨Wb, hWb⟩ : ∃ Wb, Wa.putObj (w.heap.size + 1) (.loop { rc .ready none with state := .busy }) = Wb := ⟨_, rfl⟩
        have hlb : Wb.heap[w.heap.size + 1]? = some (.loop { rc .ready none with state := .busy }) := by rw [← hWb]; exact World.putObj_heap_same hlt
        have hdb : Wb.heap[w.heap.size]? = some (.deferred (some [])) := by rw [← hWb]; exact (World.putObj_heap_other (by omega)).trans hda
        have hab : A i a₁ Wb := hA i a₁ Wa Wb (by rw [← hWb]; exact Keep.putObj _ (by omega) hla rfl) ha
        rw [hWb]
        refine wpIn_mono (hbody i a₁ Wb hi (Array.getElem?_eq_some_iff.1 hlb).1 hab) ?_
        have fin : ∀ (jump : Option Code) (W3 : World), KeepsFrom w.heap.size Wb W3 →
            (Instr.endRound (w.heap.size + 1) jump).run P W3 = .ok (.bool jump.isNone) (W3.putObj (w.heap.size + 1) (.loop (rc (if jump.isNone then .ready else .done) jump))) ∧
            Keep w.heap.size W3 (W3.putObj (w.heap.size + 1) (.loop (rc (if jump.isNone then .ready else .done) jump))) ∧
            (W3.putObj (w.heap.size + 1) (.loop (rc (if jump.isNone then .ready else .done) jump))).heap[w.heap.size + 1]? = some (.loop (rc (if jump.isNone then .ready else .done) jump)) ∧
            (W3.putObj (w.heap.size + 1) (.loop (rc (if jump.isNone then .ready else .done) jump))).heap[w.heap.size]? = some (.deferred (some [])) := fun jump W3 hk3 => by
          have hl3 := hk3.same _ _ (by omega) hlb rfl
          have hd3 := hk3.same _ _ (Nat.le_refl _) hdb rfl
          have := run_endRound (P := P) jump hl3
          rw [hrc] at this ⊢
          exact ⟨this, Keep.putObj _ (by omega) hl3 rfl, World.putObj_heap_same (Array.getElem?_eq_some_iff.1 hl3).1, (World.putObj_heap_other (by omega)).trans hd3⟩
        rintro e a3 W3 hp
        cases e with
        | normal =>
          obtain ⟨hk3, hi3⟩ := hp
          obtain ⟨hr, hkp, hl4, hd4⟩ := fin none W3 hk3
          exact ⟨_, _, hr, .inl ⟨rfl, hI _ _ _ hkp hi3, hl4, hd4⟩⟩
        | ret =>
          obtain ⟨hk3, hi3⟩ := hp
          obtain ⟨hr, hkp, hl4, hd4⟩ := fin (some .ret) W3 hk3
          exact ⟨_, _, hr, .inr ⟨rfl, .ret, hIx _ _ _ hkp hi3, hl4, hd4⟩⟩
        | exit id =>
          obtain ⟨hk3, hi3⟩ := hp
          obtain ⟨hr, hkp, hl4, hd4⟩ := fin (some (.exit id)) W3 hk3
          exact ⟨_, _, hr, .inr ⟨rfl, .exit id, hIx _ _ _ hkp hi3, hl4, hd4⟩⟩
        | goto t =>
          obtain ⟨hk3, hi3⟩ := hp
          obtain ⟨hr, hkp, hl4, hd4⟩ := fin (some (.goto t)) W3 hk3
          exact ⟨_, _, hr, .inr ⟨rfl, .goto t, hIx _ _ _ hkp hi3, hl4, hd4⟩⟩
        | panic c => exact hp.elim
        | outgrown => exact hp.elim
      | exit id => exact hq.elim
      | goto t => exact hq.elim
      | ret => exact hq.elim
      | panic c => exact hq.elim
      | outgrown => exact hq.elim
    · rintro e W' ⟨⟨v, rfl⟩, h⟩
      rcases h with ⟨hi, hl, hd⟩ | ⟨c, hc, hl, hd⟩
      · refine ⟨_, _, run_endLoop hl (by rw [hrc]; simp), ?_⟩
        have hkp : Keep w.heap.size W' (W'.putObj (w.heap.size + 1) (.loop { rc .ready none with state := .exhausted })) := Keep.putObj _ (by omega) hl rfl
        have hd' := (World.putObj_heap_other (w := W') (r := w.heap.size + 1) (o := .loop { rc .ready none with state := .exhausted }) (k := w.heap.size) (by omega)).trans hd
        subst hrc
        exact hdone _ _ (Nat.le_refl _) (hI _ _ _ hkp hi) hd'
      · refine ⟨_, _, run_endLoop hl (by rw [hrc]; simp), ?_⟩
        have hkp : Keep w.heap.size W' (W'.putObj (w.heap.size + 1) (.loop { rc .done (some c) with state := .exhausted })) := Keep.putObj _ (by omega) hl rfl
        have hd' := (World.putObj_heap_other (w := W') (r := w.heap.size + 1) (o := .loop { rc .done (some c) with state := .exhausted }) (k := w.heap.size) (by omega)).trans hd
        subst hrc
        exact wpIn_wide.2 (hstop _ _ _ (Nat.le_refl _) (hIx _ _ _ hkp hc) hd')
/-- The law where the assignment to the loop's variables touches no memory. -/
theorem wp_range_pure {P : Program} {g : Operand} {ps : Array Tmp} {assign body : Code} {Q : Exit → Act → World → Prop} {a : Act} {w : World}
    {gf : Nat} {lb : Array Value} (hg : a.eval g = .func (.func gf) #[] lb) (eg : ∀ args w, (callFunc gf args).run P w = .ok (.enter gf args) w)
    (N : Nat) (xs : Nat → Array Value) (hps : ∀ i, (xs i).size = ps.size)
    (I : Nat → World → Prop) (Ix : Code → World → Prop)
    (hI : ∀ i X Y, Keep w.heap.size X Y → I i X → I i Y) (hIx : ∀ c X Y, Keep w.heap.size X Y → Ix c X → Ix c Y)
    (h0 : I 0 w)
    (hround : ∀ l i W, i < N → I i W → w.heap.size < l → assign.wpIn (Fence.wide.inRound l) 0 P (Exit.then (fun a₁ W1 => W1 = W ∧ ∀ W2, l < W2.heap.size → I i W2 → body.wpIn (Fence.wide.inRound l) 0 P (rangeOut w.heap.size W2 (I (i + 1)) Ix) a₁ W2) (fun _ _ _ => False))
      { tmps := (ps.zip (xs i)).foldl (fun t (p, v) => t.setIfInBounds p v) a.tmps, defers := [] } W)
    (hiter : ∀ (l : Nat) (J : Nat → World → Prop) (Jx : World → Prop) (W : World), Below w.heap.size w W → (∀ i X Y, Below X.heap.size X Y → J i X → J i Y) → (∀ i X, J i X → I i X) → (∀ X, Jx X → ∃ c, Ix c X) →
      (∀ i X, i < N → J i X → RoundOk P l (xs i) X (J (i + 1)) Jx) → J 0 W →
      Calls P gf (#[.func (.yield l) #[] #[]] ++ lb) W fun e W' => (∃ v, e = .returned v) ∧ (J N W' ∨ Jx W'))
    (hdone : ∀ D W, w.heap.size ≤ D → I N W → W.heap[D]? = some (.deferred (some [])) → Q .normal { a with defers := { target := .collected D, args := #[] } :: a.defers } W)
    (hstop : ∀ D c W, w.heap.size ≤ D → Ix c W → W.heap[D]? = some (.deferred (some [])) → c.wp P Q { a with defers := { target := .collected D, args := #[] } :: a.defers } W) :
    (Code.rangeFunc g ps assign body).wp P Q a w := by
  refine wp_range hg eg N xs hps I Ix (fun i a' W => I i W ∧ ∀ W2 : World, w.heap.size + 1 < W2.heap.size → I i W2 → body.wpIn (Fence.wide.inRound (w.heap.size + 1)) 0 P (rangeOut w.heap.size W2 (I (i + 1)) Ix) a' W2)
    hI hIx (fun i a' X Y hk h => ⟨hI i X Y hk h.1, h.2⟩) h0 ?_ (fun i a₁ W hi hl h => h.2 W hl h.1) hiter hdone hstop
  intro i W hi h
  refine wpIn_mono (hround (w.heap.size + 1) i W hi h (by omega)) ?_
  intro e a₁ W1 hq
  cases e with
  | normal => exact ⟨by rw [hq.1]; exact KeepsFrom.refl _ _, by rw [hq.1]; exact h, hq.2⟩
  | exit id => exact hq
  | goto t => exact hq
  | ret => exact hq
  | panic c => exact hq
  | outgrown => exact hq
theorem below_putObj {B : Nat} {X W : World} (h : Below B X W) {D : Nat} (hD : B ≤ D) (o : Obj) : Below B X (W.putObj D o) :=
  h.trans ⟨rfl, rfl, rfl, by simp [World.putObj], fun k hk => World.putObj_heap_other (by omega)⟩
/-- A function that ranges over a function is entered so: its end has the loop's mark to take up. -/
theorem calls_of_marks {P : Program} {f : FuncId} {fn : Func} {c : Code} {args : Array Value} {w : World} {R : Ending → World → Prop} (hf : P.funcs[f]? = some fn) (hb : fn.body = some c)
    (h : c.wp P (bodyPostM Fence.wide 0 P fn R) { tmps := args ++ Array.replicate (fn.ntmps - args.size) undef, defers := [] } w) : Calls P f args w R :=
  callsIn_wide (n := 0) |>.1 (callsIn_of_wp_marks hf hb trivial (wpIn_wide.2 h) rfl)
theorem setCell_deferred {w : World} {D : Nat} {x : Option (List Deferred)} (h : w.heap[D]? = some (.deferred x)) (a : Addr) (v : Value) : (w.setCell a v).heap[D]? = some (.deferred x) := by
  by_cases e : a.block = D
  · simp [World.setCell, Array.getElem?_modify, e, h]
  · simp [World.setCell, Array.getElem?_modify, e, h]
theorem drew_deferred {w : World} {D : Nat} {x : Option (List Deferred)} (h : w.heap[D]? = some (.deferred x)) : w.drew.heap[D]? = some (.deferred x) := h
/-- A cell read behind what has taken the deferred calls' block. -/
theorem cell?_putDeferred {w : World} {D : Nat} {x y : Option (List Deferred)} (h : w.heap[D]? = some (.deferred x)) (a : Addr) : (w.putObj D (.deferred y)).cell? a = w.cell? a := by
  unfold World.cell?
  by_cases e : a.block = D
  · have hlt := (Array.getElem?_eq_some_iff.1 h).1
    rw [e, World.putObj_heap_same hlt, h]
  · rw [World.putObj_heap_other e]
end Go.Proofs.Ytmfgkimbehkdeaa
namespace Go.Proofs.Ytmfgkimbehkdeaa
open Go.RowKit
set_option linter.unusedSimpArgs false
set_option linter.unusedVariables false
/-- The heap has not shrunk, and cells of blocks from B on and below T stay as they lie. -/
structure KeptTo (B T : Nat) (X Y : World) : Prop where
  size : X.heap.size ≤ Y.heap.size
  block : ∀ (k : Nat) (o : Obj), B ≤ k → k < T → X.heap[k]? = some o → o.isCells = true → Y.heap[k]? = some o
theorem KeptTo.refl (B T : Nat) (X : World) : KeptTo B T X X := ⟨Nat.le_refl _, fun _ _ _ _ h _ => h⟩
theorem KeptTo.trans {B T : Nat} {X Y Z : World} (h : KeptTo B T X Y) (k : KeptTo B T Y Z) : KeptTo B T X Z := ⟨Nat.le_trans h.size k.size, fun i o h1 h2 h3 h4 => k.block i o h1 h2 (h.block i o h1 h2 h3 h4) h4⟩
theorem KeptTo.of_keep {B B' T : Nat} {X Y : World} (h : Keep B' X Y) : KeptTo B T X Y := ⟨h.size, fun i o h1 h2 h3 h4 => h.block i o h3 (.inr h4)⟩
theorem KeptTo.of_below {B T : Nat} {X Y : World} (h : Below X.heap.size X Y) : KeptTo B T X Y := KeptTo.of_keep (Keep.of_below (B := 0) h)
theorem KeptTo.setCell {B T : Nat} (X : World) {a : Addr} (v : Value) (h : a.block < B ∨ T ≤ a.block) : KeptTo B T X (X.setCell a v) := ⟨by simp, fun i o h1 h2 h3 h4 => by
  have : i ≠ a.block := by omega
  simp [World.setCell, Array.getElem?_modify, this.symm, h3]⟩
theorem KeptTo.grown {B T : Nat} {X Y : World} {row : Option Nat} (h : X.grownBy Y row) (hr : ∀ g, row = some g → T ≤ g) : KeptTo B T X Y := ⟨h.size, fun i o h1 h2 h3 h4 => by
  rw [h.block i (Array.getElem?_eq_some_iff.1 h3).1 (fun e => by have := hr i e.symm; omega)]
  exact h3⟩
theorem KeptTo.ownsRow {B T : Nat} {X Y : World} (h : KeptTo B T X Y) {base : Nat} {e : TypeId} {size : Nat} {v : Value} {n : Nat} {xs : List Value} (ho : X.ownsRow base e size v n xs) (h1 : B ≤ base) (h2 : ∀ g, v.ownBlock = some g → g < T) : Y.ownsRow base e size v n xs := by
  obtain ⟨h3, h4⟩ := ho
  refine ⟨h3, ?_⟩
  rcases h4 with h4 | ⟨g, cap, cur, hv, hg, hh, r⟩
  · exact .inl h4
  · exact .inr ⟨g, cap, cur, hv, hg, h.block _ _ (by omega) (h2 g (by rw [hv]; rfl)) hh rfl, r⟩
/-- THE LAW. I T i: what holds when i rounds are over; Ix c: a round has left by the jump c; A i a W: behind the assignment of the i-th element. -/
theorem wp_rangeT {P : Program} {g : Operand} {ps : Array Tmp} {assign body : Code} {Q : Exit → Act → World → Prop} {a : Act} {w : World}
    {gf : Nat} {lb : Array Value} (hg : a.eval g = .func (.func gf) #[] lb) (eg : ∀ args w, (callFunc gf args).run P w = .ok (.enter gf args) w)
    (N : Nat) (xs : Nat → Array Value) (hps : ∀ i, (xs i).size = ps.size)
    (I : Nat → Nat → World → Prop) (Ix : Code → World → Prop) (A : Nat → Nat → Act → World → Prop)
    (hI : ∀ T i X Y, Keep w.heap.size X Y → I T i X → I T i Y) (hIx : ∀ c X Y, Keep w.heap.size X Y → Ix c X → Ix c Y) (hA : ∀ T i a' X Y, Keep w.heap.size X Y → A T i a' X → A T i a' Y)
    (h0 : ∀ T, I T 0 w)
    (hassign : ∀ T i W, i < N → T ≤ W.heap.size → I T i W → assign.wpIn (Fence.wide.inRound (w.heap.size + 1)) 0 P (Exit.then (fun a₁ W1 => KeepsFrom w.heap.size W W1 ∧ KeptTo w.heap.size T W W1 ∧ A T i a₁ W1) (fun _ _ _ => False))
      { tmps := (ps.zip (xs i)).foldl (fun t (p, v) => t.setIfInBounds p v) a.tmps, defers := [] } W)
    (hbody : ∀ T i a₁ W, i < N → T ≤ W.heap.size → w.heap.size + 1 < W.heap.size → A T i a₁ W → body.wpIn (Fence.wide.inRound (w.heap.size + 1)) 0 P (rangeOut w.heap.size W (fun W' => I T (i + 1) W' ∧ KeptTo w.heap.size T W W') Ix) a₁ W)
    (hiter : ∀ (l : Nat) (J : Nat → Nat → World → Prop) (Jx : World → Prop) (W : World), Below w.heap.size w W → (∀ T i X Y, Below X.heap.size X Y → J T i X → J T i Y) → (∀ T i X, J T i X → I T i X) → (∀ X, Jx X → ∃ c, Ix c X) →
      (∀ T i X, i < N → T ≤ X.heap.size → J T i X → RoundOk P l (xs i) X (fun W' => J T (i + 1) W' ∧ KeptTo w.heap.size T X W') Jx) → (∀ T, J T 0 W) →
      Calls P gf (#[.func (.yield l) #[] #[]] ++ lb) W fun e W' => (∃ v, e = .returned v) ∧ ((∃ T, J T N W') ∨ Jx W'))
    (hdone : ∀ T D W, w.heap.size ≤ D → I T N W → W.heap[D]? = some (.deferred (some [])) → Q .normal { a with defers := { target := .collected D, args := #[] } :: a.defers } W)
    (hstop : ∀ D c W, w.heap.size ≤ D → Ix c W → W.heap[D]? = some (.deferred (some [])) → c.wp P Q { a with defers := { target := .collected D, args := #[] } :: a.defers } W) :
    (Code.rangeFunc g ps assign body).wp P Q a w := by
  refine wpIn_wide (n := 0) |>.1 (wpIn_rangeFunc ?_)
  intro fn hfn
  obtain ⟨rc, hrc⟩ : ∃ rc : LoopState → Option Code → Loop, rc = fun st pe => { state := st, pending := pe, fn, tmps := a.tmps, params := ps, assign, body, defers := w.heap.size } := ⟨_, rfl⟩
  obtain ⟨W1, hW1⟩ : ∃ W1, (w.alloc (.deferred (some []))).alloc (.loop (rc .ready none)) = W1 := ⟨_, rfl⟩
  have hL1 : W1.heap[w.heap.size + 1]? = some (.loop (rc .ready none)) := by
    rw [← hW1]; have := heap_alloc_new (w.alloc (.deferred (some []))) (.loop (rc .ready none)); rwa [World.size_alloc] at this
  have hD1 : W1.heap[w.heap.size]? = some (.deferred (some [])) := by
    rw [← hW1]; exact (Below.heap_alloc _ _ _ (by simp)).trans (heap_alloc_new w _)
  have hb1 : Below w.heap.size w W1 := by
    rw [← hW1]; exact ((Below.refl _ w).alloc (Nat.le_refl _) _).alloc (by simp) _
  have hI1 : ∀ T, I T 0 W1 := fun T => hI T 0 w W1 (Keep.of_below hb1) (h0 T)
  refine ⟨w.heap.size + 1, [{ target := .collected w.heap.size, args := #[] }], W1, { target := .fn (.func gf) lb, args := #[.func (.yield (w.heap.size + 1)) #[] #[]] }, W1, gf,
    #[.func (.yield (w.heap.size + 1)) #[] #[]] ++ lb, W1, ?_, ?_, fun _ _ => trivial, ?_, fun h => by simp [Fence.wide] at h, ?_⟩
  · rw [← hW1, hrc]; exact run_enterLoop_outer _ _ _ _ _
  · simp only [resolve, hg]
    simp [go_sem]
  · simp [invoke, go_sem, eg]
  · refine callsIn_wide.2 ((hiter (w.heap.size + 1)
      (fun T i W => I T i W ∧ W.heap[w.heap.size + 1]? = some (.loop (rc .ready none)) ∧ W.heap[w.heap.size]? = some (.deferred (some [])))
      (fun W => ∃ c, Ix c W ∧ W.heap[w.heap.size + 1]? = some (.loop (rc .done (some c))) ∧ W.heap[w.heap.size]? = some (.deferred (some [])))
      W1 hb1 ?_ (fun T i X h => h.1) (fun X ⟨c, h, _⟩ => ⟨c, h⟩) ?_ (fun T => ⟨hI1 T, hL1, hD1⟩)).mono ?_)
    · rintro T i X Y hb ⟨h1, h2, h3⟩
      exact ⟨hI T i X Y (Keep.of_below hb) h1, (hb.block _ (Array.getElem?_eq_some_iff.1 h2).1).trans h2, (hb.block _ (Array.getElem?_eq_some_iff.1 h3).1).trans h3⟩
    · rintro T i W hi hT ⟨hi1, hl, hd⟩
      have hy := run_yield (P := P) (args := xs i) hl (by rw [hrc]; exact hps i)
      rw [hrc] at hy
      refine ⟨fn, _, assign, body, hy, roundIn_of_wpIn trivial (wpIn_mono (hassign T i W hi hT hi1) ?_)⟩
      clear hy
      rintro e a₁ Wa hq
      cases e with
      | normal =>
        obtain ⟨hkf, hkt, ha⟩ := hq
        have hla := hkf.same _ _ (by omega) hl rfl
        have hda := hkf.same _ _ (Nat.le_refl _) hd rfl
        have hlt : w.heap.size + 1 < Wa.heap.size := (Array.getElem?_eq_some_iff.1 hla).1
        refine ⟨_, run_beginRound hla (by rw [hrc]), ?_⟩
        obtain ⟨Wb, hWb⟩ : ∃ Wb, Wa.putObj (w.heap.size + 1) (.loop { rc .ready none with state := .busy }) = Wb := ⟨_, rfl⟩
        have hlb : Wb.heap[w.heap.size + 1]? = some (.loop { rc .ready none with state := .busy }) := by rw [← hWb]; exact World.putObj_heap_same hlt
        have hdb : Wb.heap[w.heap.size]? = some (.deferred (some [])) := by rw [← hWb]; exact (World.putObj_heap_other (by omega)).trans hda
        have hkb : Keep w.heap.size Wa Wb := by rw [← hWb]; exact Keep.putObj _ (by omega) hla rfl
        have hab : A T i a₁ Wb := hA T i a₁ Wa Wb hkb ha
        rw [hWb]
        refine wpIn_mono (hbody T i a₁ Wb hi (Nat.le_trans hT (Nat.le_trans hkf.size hkb.size)) (Array.getElem?_eq_some_iff.1 hlb).1 hab) ?_
        have fin : ∀ (jump : Option Code) (W3 : World), KeepsFrom w.heap.size Wb W3 →
            (Instr.endRound (w.heap.size + 1) jump).run P W3 = .ok (.bool jump.isNone) (W3.putObj (w.heap.size + 1) (.loop (rc (if jump.isNone then .ready else .done) jump))) ∧
            Keep w.heap.size W3 (W3.putObj (w.heap.size + 1) (.loop (rc (if jump.isNone then .ready else .done) jump))) ∧
            (W3.putObj (w.heap.size + 1) (.loop (rc (if jump.isNone then .ready else .done) jump))).heap[w.heap.size + 1]? = some (.loop (rc (if jump.isNone then .ready else .done) jump)) ∧
            (W3.putObj (w.heap.size + 1) (.loop (rc (if jump.isNone then .ready else .done) jump))).heap[w.heap.size]? = some (.deferred (some [])) := fun jump W3 hk3 => by
          have hl3 := hk3.same _ _ (by omega) hlb rfl
          have hd3 := hk3.same _ _ (Nat.le_refl _) hdb rfl
          have := run_endRound (P := P) jump hl3
          rw [hrc] at this ⊢
          exact ⟨this, Keep.putObj _ (by omega) hl3 rfl, World.putObj_heap_same (Array.getElem?_eq_some_iff.1 hl3).1, (World.putObj_heap_other (by omega)).trans hd3⟩
        rintro e a3 W3 hp
        cases e with
        | normal =>
          obtain ⟨hk3, hi3, hkt3⟩ := hp
          obtain ⟨hr, hkp, hl4, hd4⟩ := fin none W3 hk3
          exact ⟨_, _, hr, .inl ⟨rfl, ⟨hI _ _ _ _ hkp hi3, hl4, hd4⟩, hkt.trans ((KeptTo.of_keep hkb).trans (hkt3.trans (KeptTo.of_keep hkp)))⟩⟩
        | ret =>
          obtain ⟨hk3, hi3⟩ := hp
          obtain ⟨hr, hkp, hl4, hd4⟩ := fin (some .ret) W3 hk3
          exact ⟨_, _, hr, .inr ⟨rfl, .ret, hIx _ _ _ hkp hi3, hl4, hd4⟩⟩
        | exit id =>
          obtain ⟨hk3, hi3⟩ := hp
          obtain ⟨hr, hkp, hl4, hd4⟩ := fin (some (.exit id)) W3 hk3
          exact ⟨_, _, hr, .inr ⟨rfl, .exit id, hIx _ _ _ hkp hi3, hl4, hd4⟩⟩
        | goto t =>
          obtain ⟨hk3, hi3⟩ := hp
          obtain ⟨hr, hkp, hl4, hd4⟩ := fin (some (.goto t)) W3 hk3
          exact ⟨_, _, hr, .inr ⟨rfl, .goto t, hIx _ _ _ hkp hi3, hl4, hd4⟩⟩
        | panic c => exact hp.elim
        | outgrown => exact hp.elim
      | exit id => exact hq.elim
      | goto t => exact hq.elim
      | ret => exact hq.elim
      | panic c => exact hq.elim
      | outgrown => exact hq.elim
    · rintro e W' ⟨⟨v, rfl⟩, h⟩
      rcases h with ⟨T, hi, hl, hd⟩ | ⟨c, hc, hl, hd⟩
      · refine ⟨_, _, run_endLoop hl (by rw [hrc]; simp), ?_⟩
        have hkp : Keep w.heap.size W' (W'.putObj (w.heap.size + 1) (.loop { rc .ready none with state := .exhausted })) := Keep.putObj _ (by omega) hl rfl
        have hd' := (World.putObj_heap_other (w := W') (r := w.heap.size + 1) (o := .loop { rc .ready none with state := .exhausted }) (k := w.heap.size) (by omega)).trans hd
        subst hrc
        exact hdone T _ _ (Nat.le_refl _) (hI _ _ _ _ hkp hi) hd'
      · refine ⟨_, _, run_endLoop hl (by rw [hrc]; simp), ?_⟩
        have hkp : Keep w.heap.size W' (W'.putObj (w.heap.size + 1) (.loop { rc .done (some c) with state := .exhausted })) := Keep.putObj _ (by omega) hl rfl
        have hd' := (World.putObj_heap_other (w := W') (r := w.heap.size + 1) (o := .loop { rc .done (some c) with state := .exhausted }) (k := w.heap.size) (by omega)).trans hd
        subst hrc
        exact wpIn_wide.2 (hstop _ _ _ (Nat.le_refl _) (hIx _ _ _ hkp hc) hd')
/-- The law where the assignment to the loop's variables touches no memory. -/
theorem wp_rangeT_pure {P : Program} {g : Operand} {ps : Array Tmp} {assign body : Code} {Q : Exit → Act → World → Prop} {a : Act} {w : World}
    {gf : Nat} {lb : Array Value} (hg : a.eval g = .func (.func gf) #[] lb) (eg : ∀ args w, (callFunc gf args).run P w = .ok (.enter gf args) w)
    (N : Nat) (xs : Nat → Array Value) (hps : ∀ i, (xs i).size = ps.size)
    (I : Nat → Nat → World → Prop) (Ix : Code → World → Prop)
    (hI : ∀ T i X Y, Keep w.heap.size X Y → I T i X → I T i Y) (hIx : ∀ c X Y, Keep w.heap.size X Y → Ix c X → Ix c Y)
    (h0 : ∀ T, I T 0 w)
    (hround : ∀ l T i W, i < N → T ≤ W.heap.size → I T i W → w.heap.size < l → assign.wpIn (Fence.wide.inRound l) 0 P (Exit.then (fun a₁ W1 => W1 = W ∧ ∀ W2, l < W2.heap.size → T ≤ W2.heap.size → I T i W2 → body.wpIn (Fence.wide.inRound l) 0 P (rangeOut w.heap.size W2 (fun W' => I T (i + 1) W' ∧ KeptTo w.heap.size T W2 W') Ix) a₁ W2) (fun _ _ _ => False))
      { tmps := (ps.zip (xs i)).foldl (fun t (p, v) => t.setIfInBounds p v) a.tmps, defers := [] } W)
    (hiter : ∀ (l : Nat) (J : Nat → Nat → World → Prop) (Jx : World → Prop) (W : World), Below w.heap.size w W → (∀ T i X Y, Below X.heap.size X Y → J T i X → J T i Y) → (∀ T i X, J T i X → I T i X) → (∀ X, Jx X → ∃ c, Ix c X) →
      (∀ T i X, i < N → T ≤ X.heap.size → J T i X → RoundOk P l (xs i) X (fun W' => J T (i + 1) W' ∧ KeptTo w.heap.size T X W') Jx) → (∀ T, J T 0 W) →
      Calls P gf (#[.func (.yield l) #[] #[]] ++ lb) W fun e W' => (∃ v, e = .returned v) ∧ ((∃ T, J T N W') ∨ Jx W'))
    (hdone : ∀ T D W, w.heap.size ≤ D → I T N W → W.heap[D]? = some (.deferred (some [])) → Q .normal { a with defers := { target := .collected D, args := #[] } :: a.defers } W)
    (hstop : ∀ D c W, w.heap.size ≤ D → Ix c W → W.heap[D]? = some (.deferred (some [])) → c.wp P Q { a with defers := { target := .collected D, args := #[] } :: a.defers } W) :
    (Code.rangeFunc g ps assign body).wp P Q a w := by
  refine wp_rangeT hg eg N xs hps I Ix (fun T i a' W => I T i W ∧ ∀ W2 : World, w.heap.size + 1 < W2.heap.size → T ≤ W2.heap.size → I T i W2 → body.wpIn (Fence.wide.inRound (w.heap.size + 1)) 0 P (rangeOut w.heap.size W2 (fun W' => I T (i + 1) W' ∧ KeptTo w.heap.size T W2 W') Ix) a' W2)
    hI hIx (fun T i a' X Y hk h => ⟨hI T i X Y hk h.1, h.2⟩) h0 ?_ (fun T i a₁ W hi hT hl h => h.2 W hl hT h.1) hiter hdone hstop
  intro T i W hi hT h
  refine wpIn_mono (hround (w.heap.size + 1) T i W hi hT h (by omega)) ?_
  intro e a₁ W1 hq
  cases e with
  | normal => exact ⟨by rw [hq.1]; exact KeepsFrom.refl _ _, by rw [hq.1]; exact KeptTo.refl _ _ _, by rw [hq.1]; exact h, hq.2⟩
  | exit id => exact hq
  | goto t => exact hq
  | ret => exact hq
  | panic c => exact hq
  | outgrown => exact hq
end Go.Proofs.Ytmfgkimbehkdeaa
namespace Go.Proofs.Ytmfgkimbehkdeaa
open Go.RowKit
set_option linter.unusedSimpArgs false
set_option linter.unusedVariables false
/-- From X to Y: what is new may be anything, the blocks of S may have turned, the others lie as they lay. -/
structure But (S : Nat → Prop) (X Y : World) : Prop where
  os : Y.os = X.os
  tape : Y.tape = X.tape
  output : Y.output = X.output
  size : X.heap.size ≤ Y.heap.size
  block : ∀ (k : Nat) (o : Obj), ¬ S k → X.heap[k]? = some o → Y.heap[k]? = some o
theorem But.refl (S : Nat → Prop) (X : World) : But S X X := ⟨rfl, rfl, rfl, Nat.le_refl _, fun _ _ _ h => h⟩
theorem But.trans {S : Nat → Prop} {X Y Z : World} (h : But S X Y) (k : But S Y Z) : But S X Z := ⟨k.os.trans h.os, k.tape.trans h.tape, k.output.trans h.output, Nat.le_trans h.size k.size, fun i o hn hi => k.block i o hn (h.block i o hn hi)⟩
theorem But.of_below {S : Nat → Prop} {X Y : World} (h : Below X.heap.size X Y) : But S X Y := ⟨h.os, h.tape, h.output, h.size, fun k o _ hk => (h.block k (Array.getElem?_eq_some_iff.1 hk).1).trans hk⟩
theorem But.setCell {S : Nat → Prop} (X : World) {a : Addr} (v : Value) (h : S a.block) : But S X (X.setCell a v) := ⟨rfl, rfl, rfl, by simp, fun k o hn hk => by
  have : a.block ≠ k := fun e => hn (e ▸ h)
  simp [World.setCell, Array.getElem?_modify, this, hk]⟩
theorem But.cell {S : Nat → Prop} {X Y : World} (h : But S X Y) {a : Addr} {v : Value} (hn : ¬ S a.block) (hc : X.cell? a = some v) : Y.cell? a = some v := by
  unfold World.cell? at hc ⊢
  cases ho : X.heap[a.block]? with
  | none => simp [ho] at hc
  | some o =>
    rw [ho] at hc
    rw [h.block _ _ hn ho]
    exact hc
theorem But.frozen {S : Nat → Prop} {X Y : World} (h : But S X Y) {a : Addr} {v : Value} (hn : ¬ S a.block) (hc : X.cell? a = some v) : Y.frozen? a = X.frozen? a := by
  unfold World.cell? at hc
  unfold World.frozen?
  cases ho : X.heap[a.block]? with
  | none => simp [ho] at hc
  | some o => rw [h.block _ _ hn ho]
theorem But.below {S : Nat → Prop} {B : Nat} {X Y Z : World} (h : But S Y Z) (hb : Below B X Y) (hS : ∀ k, k < B → ¬ S k) (hB : B ≤ Y.heap.size) : Below B X Z :=
  hb.trans ⟨h.os, h.tape, h.output, h.size, fun k hk => by
    have hlt : k < Y.heap.size := by omega
    rw [h.block k _ (hS k hk) (Array.getElem?_eq_getElem hlt), Array.getElem?_eq_getElem hlt]⟩
theorem But.ownsRow {S : Nat → Prop} {X Y : World} (h : But S X Y) {base : Nat} {e : TypeId} {size : Nat} {v : Value} {n : Nat} {xs : List Value} (ho : X.ownsRow base e size v n xs) (hS : ∀ k, base ≤ k → ¬ S k) : Y.ownsRow base e size v n xs := by
  obtain ⟨h1, h2⟩ := ho
  refine ⟨h1, ?_⟩
  rcases h2 with h2 | ⟨g, cap, cur, hv, hg, hh, r⟩
  · exact .inl h2
  · exact .inr ⟨g, cap, cur, hv, hg, h.block _ _ (hS g hg) hh, r⟩
/-- The blocks of S lie as they lay. -/
def Stay (S : Nat → Prop) (X Y : World) : Prop := ∀ (k : Nat) (o : Obj), S k → X.heap[k]? = some o → Y.heap[k]? = some o
theorem Stay.refl (S : Nat → Prop) (X : World) : Stay S X X := fun _ _ _ h => h
theorem Stay.trans {S : Nat → Prop} {X Y Z : World} (h : Stay S X Y) (k : Stay S Y Z) : Stay S X Z := fun i o hs hi => k i o hs (h i o hs hi)
theorem Stay.putObj {S : Nat → Prop} (X : World) (r : Nat) (o : Obj) (h : ¬ S r) : Stay S X (X.putObj r o) := fun i o' hs hi => (World.putObj_heap_other (w := X) (r := r) (o := o) (k := i) (by intro e; subst e; exact h hs)).trans hi
theorem Stay.setCell {S : Nat → Prop} (X : World) {a : Addr} (v : Value) (h : ¬ S a.block) : Stay S X (X.setCell a v) := fun i o' hs hi => by
  have : a.block ≠ i := fun e => h (e ▸ hs)
  simp [World.setCell, Array.getElem?_modify, this, hi]
theorem Stay.of_below {S : Nat → Prop} {X Y : World} (h : Below X.heap.size X Y) : Stay S X Y := fun k o _ hk => (h.block k (Array.getElem?_eq_some_iff.1 hk).1).trans hk
theorem Stay.of_grown {S : Nat → Prop} {X Y : World} {row : Option Nat} (h : X.grownBy Y row) (hr : ∀ g, row = some g → ¬ S g) : Stay S X Y := fun k o hs hk => by
  rw [h.block k (Array.getElem?_eq_some_iff.1 hk).1 (fun e => hr k e.symm hs)]
  exact hk
theorem Stay.cell {S : Nat → Prop} {X Y : World} (h : Stay S X Y) {a : Addr} {v : Value} (hs : S a.block) (hc : X.cell? a = some v) : Y.cell? a = some v := by
  unfold World.cell? at hc ⊢
  cases ho : X.heap[a.block]? with
  | none => simp [ho] at hc
  | some o =>
    rw [ho] at hc
    rw [h _ _ hs ho]
    exact hc
theorem Stay.frozen {S : Nat → Prop} {X Y : World} (h : Stay S X Y) {a : Addr} {v : Value} (hs : S a.block) (hc : X.cell? a = some v) : Y.frozen? a = X.frozen? a := by
  unfold World.cell? at hc
  unfold World.frozen?
  cases ho : X.heap[a.block]? with
  | none => simp [ho] at hc
  | some o => rw [h _ _ hs ho]
/-- THE LAW. I i: what holds when i rounds are over; Ix c: a round has left by the jump c; A i a W: behind the assignment of the i-th element. -/
theorem wp_rangeK {P : Program} {g : Operand} {ps : Array Tmp} {assign body : Code} {Q : Exit → Act → World → Prop} {a : Act} {w : World}
    {gf : Nat} {lb : Array Value} (hg : a.eval g = .func (.func gf) #[] lb) (eg : ∀ args w, (callFunc gf args).run P w = .ok (.enter gf args) w)
    (S : Nat → Prop) (hS : ∀ k, S k → k < w.heap.size) (N : Nat) (xs : Nat → Array Value) (hps : ∀ i, (xs i).size = ps.size)
    (I : Nat → World → Prop) (Ix : Code → World → Prop) (A : Nat → Act → World → Prop)
    (hI : ∀ i X Y, Keep w.heap.size X Y → I i X → I i Y) (hIS : ∀ i X Y, But S X Y → I i X → I i Y) (F G : World → Prop) (hF : ∀ X Y, Keep w.heap.size X Y → F X → F Y) (hG : ∀ X Y, Keep w.heap.size X Y → G X → G Y) (hIx : ∀ c X Y, Keep w.heap.size X Y → Ix c X → Ix c Y) (hA : ∀ i a' X Y, Keep w.heap.size X Y → A i a' X → A i a' Y)
    (h0 : I 0 w)
    (hassign : ∀ i W, i < N → I i W → assign.wpIn (Fence.wide.inRound (w.heap.size + 1)) 0 P (Exit.then (fun a₁ W1 => KeepsFrom w.heap.size W W1 ∧ Stay S W W1 ∧ A i a₁ W1) (fun _ _ _ => False))
      { tmps := (ps.zip (xs i)).foldl (fun t (p, v) => t.setIfInBounds p v) a.tmps, defers := [] } W)
    (hbody : ∀ i a₁ W, i < N → w.heap.size + 1 < W.heap.size → A i a₁ W → body.wpIn (Fence.wide.inRound (w.heap.size + 1)) 0 P (rangeOut w.heap.size W (fun W' => I (i + 1) W' ∧ Stay S W W') (fun c W' => Ix c W' ∧ Stay S W W')) a₁ W)
    (hiter : ∀ (l : Nat) (J : Nat → World → Prop) (Jx : World → Prop) (W : World), Below w.heap.size w W → (∀ i X Y, But S X Y → J i X → J i Y) → (∀ i X, J i X → I i X) → (∀ X, Jx X → ∃ c, Ix c X) →
      (∀ i X, i < N → J i X → RoundOk P l (xs i) X (fun W' => J (i + 1) W' ∧ Stay S X W') (fun W' => Jx W' ∧ Stay S X W')) → J 0 W →
      Calls P gf (#[.func (.yield l) #[] #[]] ++ lb) W fun e W' => (∃ v, e = .returned v) ∧ ((J N W' ∧ F W') ∨ (Jx W' ∧ G W')))
    (hdone : ∀ D W, w.heap.size ≤ D → I N W → F W → W.heap[D]? = some (.deferred (some [])) → Q .normal { a with defers := { target := .collected D, args := #[] } :: a.defers } W)
    (hstop : ∀ D c W, w.heap.size ≤ D → Ix c W → G W → W.heap[D]? = some (.deferred (some [])) → c.wp P Q { a with defers := { target := .collected D, args := #[] } :: a.defers } W) :
    (Code.rangeFunc g ps assign body).wp P Q a w := by
  refine wpIn_wide (n := 0) |>.1 (wpIn_rangeFunc ?_)
  intro fn hfn
  obtain ⟨rc, hrc⟩ : ∃ rc : LoopState → Option Code → Loop, rc = fun st pe => { state := st, pending := pe, fn, tmps := a.tmps, params := ps, assign, body, defers := w.heap.size } := ⟨_, rfl⟩
  obtain ⟨W1, hW1⟩ : ∃ W1, (w.alloc (.deferred (some []))).alloc (.loop (rc .ready none)) = W1 := ⟨_, rfl⟩
  have hL1 : W1.heap[w.heap.size + 1]? = some (.loop (rc .ready none)) := by
    rw [← hW1]; have := heap_alloc_new (w.alloc (.deferred (some []))) (.loop (rc .ready none)); rwa [World.size_alloc] at this
  have hD1 : W1.heap[w.heap.size]? = some (.deferred (some [])) := by
    rw [← hW1]; exact (Below.heap_alloc _ _ _ (by simp)).trans (heap_alloc_new w _)
  have hb1 : Below w.heap.size w W1 := by
    rw [← hW1]; exact ((Below.refl _ w).alloc (Nat.le_refl _) _).alloc (by simp) _
  have hI1 : I 0 W1 := hI 0 w W1 (Keep.of_below hb1) h0
  refine ⟨w.heap.size + 1, [{ target := .collected w.heap.size, args := #[] }], W1, { target := .fn (.func gf) lb, args := #[.func (.yield (w.heap.size + 1)) #[] #[]] }, W1, gf,
    #[.func (.yield (w.heap.size + 1)) #[] #[]] ++ lb, W1, ?_, ?_, fun _ _ => trivial, ?_, fun h => by simp [Fence.wide] at h, ?_⟩
  · rw [← hW1, hrc]; exact run_enterLoop_outer _ _ _ _ _
  · simp only [resolve, hg]
    simp [go_sem]
  · simp [invoke, go_sem, eg]
  · refine callsIn_wide.2 ((hiter (w.heap.size + 1)
      (fun i W => I i W ∧ W.heap[w.heap.size + 1]? = some (.loop (rc .ready none)) ∧ W.heap[w.heap.size]? = some (.deferred (some [])))
      (fun W => ∃ c, Ix c W ∧ W.heap[w.heap.size + 1]? = some (.loop (rc .done (some c))) ∧ W.heap[w.heap.size]? = some (.deferred (some [])))
      W1 hb1 ?_ (fun i X h => h.1) (fun X ⟨c, h, _⟩ => ⟨c, h⟩) ?_ ⟨hI1, hL1, hD1⟩).mono ?_)
    · rintro i X Y hb ⟨h1, h2, h3⟩
      exact ⟨hIS i X Y hb h1, hb.block _ _ (fun h => by have := hS _ h; omega) h2, hb.block _ _ (fun h => by have := hS _ h; omega) h3⟩
    · rintro i W hi ⟨hi1, hl, hd⟩
      have hy := run_yield (P := P) (args := xs i) hl (by rw [hrc]; exact hps i)
      rw [hrc] at hy
      refine ⟨fn, _, assign, body, hy, roundIn_of_wpIn trivial (wpIn_mono (hassign i W hi hi1) ?_)⟩
      clear hy
      rintro e a₁ Wa hq
      cases e with
      | normal =>
        obtain ⟨hkf, hkt, ha⟩ := hq
        have hla := hkf.same _ _ (by omega) hl rfl
        have hda := hkf.same _ _ (Nat.le_refl _) hd rfl
        have hlt : w.heap.size + 1 < Wa.heap.size := (Array.getElem?_eq_some_iff.1 hla).1
        refine ⟨_, run_beginRound hla (by rw [hrc]), ?_⟩
        obtain ⟨Wb, hWb⟩ : ∃ Wb, Wa.putObj (w.heap.size + 1) (.loop { rc .ready none with state := .busy }) = Wb := ⟨_, rfl⟩
        have hlb : Wb.heap[w.heap.size + 1]? = some (.loop { rc .ready none with state := .busy }) := by rw [← hWb]; exact World.putObj_heap_same hlt
        have hdb : Wb.heap[w.heap.size]? = some (.deferred (some [])) := by rw [← hWb]; exact (World.putObj_heap_other (by omega)).trans hda
        have hkb : Stay S Wa Wb := by rw [← hWb]; exact Stay.putObj _ _ _ (fun h => by have := hS _ h; omega)
        have hab : A i a₁ Wb := hA i a₁ Wa Wb (by rw [← hWb]; exact Keep.putObj _ (by omega) hla rfl) ha
        rw [hWb]
        refine wpIn_mono (hbody i a₁ Wb hi (Array.getElem?_eq_some_iff.1 hlb).1 hab) ?_
        have fin : ∀ (jump : Option Code) (W3 : World), KeepsFrom w.heap.size Wb W3 →
            (Instr.endRound (w.heap.size + 1) jump).run P W3 = .ok (.bool jump.isNone) (W3.putObj (w.heap.size + 1) (.loop (rc (if jump.isNone then .ready else .done) jump))) ∧
            Keep w.heap.size W3 (W3.putObj (w.heap.size + 1) (.loop (rc (if jump.isNone then .ready else .done) jump))) ∧
            (W3.putObj (w.heap.size + 1) (.loop (rc (if jump.isNone then .ready else .done) jump))).heap[w.heap.size + 1]? = some (.loop (rc (if jump.isNone then .ready else .done) jump)) ∧
            (W3.putObj (w.heap.size + 1) (.loop (rc (if jump.isNone then .ready else .done) jump))).heap[w.heap.size]? = some (.deferred (some [])) := fun jump W3 hk3 => by
          have hl3 := hk3.same _ _ (by omega) hlb rfl
          have hd3 := hk3.same _ _ (Nat.le_refl _) hdb rfl
          have := run_endRound (P := P) jump hl3
          rw [hrc] at this ⊢
          exact ⟨this, Keep.putObj _ (by omega) hl3 rfl, World.putObj_heap_same (Array.getElem?_eq_some_iff.1 hl3).1, (World.putObj_heap_other (by omega)).trans hd3⟩
        rintro e a3 W3 hp
        cases e with
        | normal =>
          obtain ⟨hk3, hi3, hkt3⟩ := hp
          obtain ⟨hr, hkp, hl4, hd4⟩ := fin none W3 hk3
          exact ⟨_, _, hr, .inl ⟨rfl, ⟨hI _ _ _ hkp hi3, hl4, hd4⟩, hkt.trans (hkb.trans (hkt3.trans (Stay.putObj _ _ _ (fun h => by have := hS _ h; omega))))⟩⟩
        | ret =>
          obtain ⟨hk3, hi3⟩ := hp
          obtain ⟨hr, hkp, hl4, hd4⟩ := fin (some .ret) W3 hk3
          exact ⟨_, _, hr, .inr ⟨rfl, ⟨.ret, hIx _ _ _ hkp hi3.1, hl4, hd4⟩, hkt.trans (hkb.trans (hi3.2.trans (Stay.putObj _ _ _ (fun h => by have := hS _ h; omega))))⟩⟩
        | exit id =>
          obtain ⟨hk3, hi3⟩ := hp
          obtain ⟨hr, hkp, hl4, hd4⟩ := fin (some (.exit id)) W3 hk3
          exact ⟨_, _, hr, .inr ⟨rfl, ⟨.exit id, hIx _ _ _ hkp hi3.1, hl4, hd4⟩, hkt.trans (hkb.trans (hi3.2.trans (Stay.putObj _ _ _ (fun h => by have := hS _ h; omega))))⟩⟩
        | goto t =>
          obtain ⟨hk3, hi3⟩ := hp
          obtain ⟨hr, hkp, hl4, hd4⟩ := fin (some (.goto t)) W3 hk3
          exact ⟨_, _, hr, .inr ⟨rfl, ⟨.goto t, hIx _ _ _ hkp hi3.1, hl4, hd4⟩, hkt.trans (hkb.trans (hi3.2.trans (Stay.putObj _ _ _ (fun h => by have := hS _ h; omega))))⟩⟩
        | panic c => exact hp.elim
        | outgrown => exact hp.elim
      | exit id => exact hq.elim
      | goto t => exact hq.elim
      | ret => exact hq.elim
      | panic c => exact hq.elim
      | outgrown => exact hq.elim
    · rintro e W' ⟨⟨v, rfl⟩, h⟩
      rcases h with ⟨⟨hi, hl, hd⟩, hf⟩ | ⟨⟨c, hc, hl, hd⟩, hg⟩
      · refine ⟨_, _, run_endLoop hl (by rw [hrc]; simp), ?_⟩
        have hkp : Keep w.heap.size W' (W'.putObj (w.heap.size + 1) (.loop { rc .ready none with state := .exhausted })) := Keep.putObj _ (by omega) hl rfl
        have hd' := (World.putObj_heap_other (w := W') (r := w.heap.size + 1) (o := .loop { rc .ready none with state := .exhausted }) (k := w.heap.size) (by omega)).trans hd
        subst hrc
        exact hdone _ _ (Nat.le_refl _) (hI _ _ _ hkp hi) (hF _ _ hkp hf) hd'
      · refine ⟨_, _, run_endLoop hl (by rw [hrc]; simp), ?_⟩
        have hkp : Keep w.heap.size W' (W'.putObj (w.heap.size + 1) (.loop { rc .done (some c) with state := .exhausted })) := Keep.putObj _ (by omega) hl rfl
        have hd' := (World.putObj_heap_other (w := W') (r := w.heap.size + 1) (o := .loop { rc .done (some c) with state := .exhausted }) (k := w.heap.size) (by omega)).trans hd
        subst hrc
        exact wpIn_wide.2 (hstop _ _ _ (Nat.le_refl _) (hIx _ _ _ hkp hc) (hG _ _ hkp hg) hd')
/-- The law where the assignment to the loop's variables touches no memory. -/
theorem wp_rangeK_pure {P : Program} {g : Operand} {ps : Array Tmp} {assign body : Code} {Q : Exit → Act → World → Prop} {a : Act} {w : World}
    {gf : Nat} {lb : Array Value} (hg : a.eval g = .func (.func gf) #[] lb) (eg : ∀ args w, (callFunc gf args).run P w = .ok (.enter gf args) w)
    (S : Nat → Prop) (hS : ∀ k, S k → k < w.heap.size) (N : Nat) (xs : Nat → Array Value) (hps : ∀ i, (xs i).size = ps.size)
    (I : Nat → World → Prop) (Ix : Code → World → Prop)
    (hI : ∀ i X Y, Keep w.heap.size X Y → I i X → I i Y) (hIS : ∀ i X Y, But S X Y → I i X → I i Y) (F G : World → Prop) (hF : ∀ X Y, Keep w.heap.size X Y → F X → F Y) (hG : ∀ X Y, Keep w.heap.size X Y → G X → G Y) (hIx : ∀ c X Y, Keep w.heap.size X Y → Ix c X → Ix c Y)
    (h0 : I 0 w)
    (hround : ∀ l i W, i < N → I i W → w.heap.size < l → assign.wpIn (Fence.wide.inRound l) 0 P (Exit.then (fun a₁ W1 => W1 = W ∧ ∀ W2, l < W2.heap.size → I i W2 → body.wpIn (Fence.wide.inRound l) 0 P (rangeOut w.heap.size W2 (fun W' => I (i + 1) W' ∧ Stay S W2 W') (fun c W' => Ix c W' ∧ Stay S W2 W')) a₁ W2) (fun _ _ _ => False))
      { tmps := (ps.zip (xs i)).foldl (fun t (p, v) => t.setIfInBounds p v) a.tmps, defers := [] } W)
    (hiter : ∀ (l : Nat) (J : Nat → World → Prop) (Jx : World → Prop) (W : World), Below w.heap.size w W → (∀ i X Y, But S X Y → J i X → J i Y) → (∀ i X, J i X → I i X) → (∀ X, Jx X → ∃ c, Ix c X) →
      (∀ i X, i < N → J i X → RoundOk P l (xs i) X (fun W' => J (i + 1) W' ∧ Stay S X W') (fun W' => Jx W' ∧ Stay S X W')) → J 0 W →
      Calls P gf (#[.func (.yield l) #[] #[]] ++ lb) W fun e W' => (∃ v, e = .returned v) ∧ ((J N W' ∧ F W') ∨ (Jx W' ∧ G W')))
    (hdone : ∀ D W, w.heap.size ≤ D → I N W → F W → W.heap[D]? = some (.deferred (some [])) → Q .normal { a with defers := { target := .collected D, args := #[] } :: a.defers } W)
    (hstop : ∀ D c W, w.heap.size ≤ D → Ix c W → G W → W.heap[D]? = some (.deferred (some [])) → c.wp P Q { a with defers := { target := .collected D, args := #[] } :: a.defers } W) :
    (Code.rangeFunc g ps assign body).wp P Q a w := by
  refine wp_rangeK hg eg S hS N xs hps I Ix (fun i a' W => I i W ∧ ∀ W2 : World, w.heap.size + 1 < W2.heap.size → I i W2 → body.wpIn (Fence.wide.inRound (w.heap.size + 1)) 0 P (rangeOut w.heap.size W2 (fun W' => I (i + 1) W' ∧ Stay S W2 W') (fun c W' => Ix c W' ∧ Stay S W2 W')) a' W2)
    hI hIS F G hF hG hIx (fun i a' X Y hk h => ⟨hI i X Y hk h.1, h.2⟩) h0 ?_ (fun i a₁ W hi hl h => h.2 W hl h.1) hiter hdone hstop
  intro i W hi h
  refine wpIn_mono (hround (w.heap.size + 1) i W hi h (by omega)) ?_
  intro e a₁ W1 hq
  cases e with
  | normal => exact ⟨by rw [hq.1]; exact KeepsFrom.refl _ _, by rw [hq.1]; exact Stay.refl _ _, by rw [hq.1]; exact h, hq.2⟩
  | exit id => exact hq
  | goto t => exact hq
  | ret => exact hq
  | panic c => exact hq
  | outgrown => exact hq
/-- The law where the assignment to the loop's variables lays them into a box X of its own, of which Bx tells. -/
theorem wp_rangeK_box {P : Program} {g : Operand} {ps : Array Tmp} {assign body : Code} {Q : Exit → Act → World → Prop} {a : Act} {w : World}
    {gf : Nat} {lb : Array Value} (hg : a.eval g = .func (.func gf) #[] lb) (eg : ∀ args w, (callFunc gf args).run P w = .ok (.enter gf args) w)
    (S : Nat → Prop) (hS : ∀ k, S k → k < w.heap.size) (N : Nat) (xs : Nat → Array Value) (hps : ∀ i, (xs i).size = ps.size)
    (I : Nat → World → Prop) (Ix : Code → World → Prop) (Bx : Nat → Nat → World → Prop)
    (hI : ∀ i X Y, Keep w.heap.size X Y → I i X → I i Y) (hIS : ∀ i X Y, But S X Y → I i X → I i Y) (F G : World → Prop) (hF : ∀ X Y, Keep w.heap.size X Y → F X → F Y) (hG : ∀ X Y, Keep w.heap.size X Y → G X → G Y) (hIx : ∀ c X Y, Keep w.heap.size X Y → Ix c X → Ix c Y)
    (hBx : ∀ i b X Y, Keep w.heap.size X Y → Bx i b X → Bx i b Y)
    (h0 : I 0 w)
    (hround : ∀ l i W, i < N → I i W → w.heap.size < l → assign.wpIn (Fence.wide.inRound l) 0 P (Exit.then (fun a₁ W1 => KeepsFrom w.heap.size W W1 ∧ Stay S W W1 ∧ I i W1 ∧ ∃ b, Bx i b W1 ∧ ∀ W2, l < W2.heap.size → I i W2 → Bx i b W2 → body.wpIn (Fence.wide.inRound l) 0 P (rangeOut w.heap.size W2 (fun W' => I (i + 1) W' ∧ Stay S W2 W') (fun c W' => Ix c W' ∧ Stay S W2 W')) a₁ W2) (fun _ _ _ => False))
      { tmps := (ps.zip (xs i)).foldl (fun t (p, v) => t.setIfInBounds p v) a.tmps, defers := [] } W)
    (hiter : ∀ (l : Nat) (J : Nat → World → Prop) (Jx : World → Prop) (W : World), Below w.heap.size w W → (∀ i X Y, But S X Y → J i X → J i Y) → (∀ i X, J i X → I i X) → (∀ X, Jx X → ∃ c, Ix c X) →
      (∀ i X, i < N → J i X → RoundOk P l (xs i) X (fun W' => J (i + 1) W' ∧ Stay S X W') (fun W' => Jx W' ∧ Stay S X W')) → J 0 W →
      Calls P gf (#[.func (.yield l) #[] #[]] ++ lb) W fun e W' => (∃ v, e = .returned v) ∧ ((J N W' ∧ F W') ∨ (Jx W' ∧ G W')))
    (hdone : ∀ D W, w.heap.size ≤ D → I N W → F W → W.heap[D]? = some (.deferred (some [])) → Q .normal { a with defers := { target := .collected D, args := #[] } :: a.defers } W)
    (hstop : ∀ D c W, w.heap.size ≤ D → Ix c W → G W → W.heap[D]? = some (.deferred (some [])) → c.wp P Q { a with defers := { target := .collected D, args := #[] } :: a.defers } W) :
    (Code.rangeFunc g ps assign body).wp P Q a w := by
  refine wp_rangeK hg eg S hS N xs hps I Ix (fun i a' W => I i W ∧ ∃ b, Bx i b W ∧ ∀ W2 : World, w.heap.size + 1 < W2.heap.size → I i W2 → Bx i b W2 → body.wpIn (Fence.wide.inRound (w.heap.size + 1)) 0 P (rangeOut w.heap.size W2 (fun W' => I (i + 1) W' ∧ Stay S W2 W') (fun c W' => Ix c W' ∧ Stay S W2 W')) a' W2)
    hI hIS F G hF hG hIx (fun i a' X Y hk ⟨h, b, h1, h2⟩ => ⟨hI i X Y hk h, b, hBx i b X Y hk h1, h2⟩) h0 ?_ (fun i a₁ W hi hl ⟨h, b, h1, h2⟩ => h2 W hl h h1) hiter hdone hstop
  intro i W hi h
  refine wpIn_mono (hround (w.heap.size + 1) i W hi h (by omega)) ?_
  intro e a₁ W1 hq
  cases e with
  | normal => exact ⟨hq.1, hq.2.1, hq.2.2.1, hq.2.2.2⟩
  | exit id => exact hq
  | goto t => exact hq
  | ret => exact hq
  | panic c => exact hq
  | outgrown => exact hq
end Go.Proofs.Ytmfgkimbehkdeaa
namespace Go.Proofs.Ytmfgkimbehkdeaa
open Go.RowKit
set_option linter.unusedSimpArgs false
set_option linter.unusedVariables false
/-- Block B holds these values, and no cell of it is frozen. -/
def Blk (w : World) (B : Nat) (t : TypeId) (vs : List Value) : Prop := w.heap[B]? = some (.cells vs.toArray t (0, 0))
theorem Blk.lt {w : World} {B : Nat} {t : TypeId} {vs : List Value} (h : Blk w B t vs) : B < w.heap.size := (Array.getElem?_eq_some_iff.1 h).1
theorem Blk.new (w : World) (t : TypeId) (cs : Array Value) : Blk (w.alloc (.cells cs t)) w.heap.size t cs.toList := by
  have := heap_alloc_new w (.cells cs t)
  simpa [Blk] using this
theorem Blk.cell {w : World} {B : Nat} {t : TypeId} {vs : List Value} (h : Blk w B t vs) (i : Nat) : w.cell? ⟨B, i, none⟩ = vs[i]? := by
  unfold Blk at h
  simp [World.cell?, h]
theorem Blk.frozen {w : World} {B : Nat} {t : TypeId} {vs : List Value} (h : Blk w B t vs) (i : Nat) : w.frozen? ⟨B, i, none⟩ = false := by
  unfold Blk at h
  simp [World.frozen?, h]
theorem Blk.set {w : World} {B : Nat} {t : TypeId} {vs : List Value} (h : Blk w B t vs) (i : Nat) (v : Value) : Blk (w.setCell ⟨B, i, none⟩ v) B t (vs.set i v) := by
  unfold Blk at h ⊢
  simp [World.setCell, Array.getElem?_modify, h]
theorem Blk.other {w : World} {B : Nat} {t : TypeId} {vs : List Value} (h : Blk w B t vs) {a : Addr} (ha : a.block ≠ B) (v : Value) : Blk (w.setCell a v) B t vs := by
  unfold Blk at h ⊢
  simp [World.setCell, Array.getElem?_modify, ha, h]
theorem Blk.later {w w' : World} {B : Nat} {t : TypeId} {vs : List Value} (h : Blk w B t vs) (hb : Below w.heap.size w w') : Blk w' B t vs := by
  unfold Blk at h ⊢
  rw [hb.block B (Array.getElem?_eq_some_iff.1 h).1, h]
theorem Blk.alloc {w : World} {B : Nat} {t : TypeId} {vs : List Value} (h : Blk w B t vs) (o : Obj) : Blk (w.alloc o) B t vs := h.later ((Below.refl _ _).alloc (Nat.le_refl _) _)
theorem Blk.below {w w' : World} {B L : Nat} {t : TypeId} {vs : List Value} (h : Blk w B t vs) (hb : Below L w w') (hl : B < L) : Blk w' B t vs := by
  unfold Blk at h ⊢
  rw [hb.block B hl, h]
theorem Blk.keep {w w' : World} {B L : Nat} {t : TypeId} {vs : List Value} (h : Blk w B t vs) (hk : Keep L w w') : Blk w' B t vs := hk.block _ _ h (.inr rfl)
theorem Blk.row {w : World} {B : Nat} {t : TypeId} {k : IntKind} {xs : List Int} (h : Blk w B t (xs.map (Value.int k))) : Row k w (some ⟨B, 0, none⟩) xs := by
  refine .inr ⟨B, 0, rfl, h.lt, fun i hi => ?_⟩
  have := h.cell i
  simp [this, hi]
/-- Of integers. -/
def Arr (w : World) (B : Nat) (t : TypeId) (xs : List Int) : Prop := Blk w B t (xs.map (Value.int .i64))
theorem Arr.get {w : World} {B : Nat} {t : TypeId} {xs : List Int} (h : Arr w B t xs) {i : Nat} (hi : i < xs.length) : w.cell? ⟨B, i, none⟩ = some (.int .i64 (xs.getD i 0)) := by
  have := Blk.cell h i
  simp [this, hi]
theorem Arr.set {w : World} {B : Nat} {t : TypeId} {xs : List Int} (h : Arr w B t xs) (i : Nat) (v : Int) : Arr (w.setCell ⟨B, i, none⟩ (.int .i64 v)) B t (xs.set i v) := by
  have := Blk.set h i (.int .i64 v)
  unfold Arr
  rwa [List.map_set]
theorem Row.take {k : IntKind} {w : World} {a : Option Addr} {xs : List Int} (h : Row k w a xs) (n : Nat) : Row k w a (xs.take n) := by
  rcases h with h | ⟨b, off, ha, hb, hc⟩
  · subst h; exact .inl (by simp)
  · refine .inr ⟨b, off, ha, hb, fun i hi => ?_⟩
    have h1 : i < n ∧ i < xs.length := by simp at hi; omega
    rw [hc i h1.2]
    simp [List.getD_eq_getElem?_getD, List.getElem?_take, h1.1]
/-- The slice's address leads to a row whose first cells are these truth values. -/
def RowB (w : World) (a : Option Addr) (xs : List Bool) : Prop :=
  xs = [] ∨ ∃ b off, a = some ⟨b, off, none⟩ ∧ b < w.heap.size ∧ ∀ i, i < xs.length → w.cell? ⟨b, off + i, none⟩ = some (.bool (xs.getD i false))
theorem RowB.later {w w' : World} {a : Option Addr} {xs : List Bool} (h : RowB w a xs) (hb : Below w.heap.size w w') : RowB w' a xs := by
  rcases h with h | ⟨b, off, ha, hlt, hc⟩
  · exact .inl h
  · exact .inr ⟨b, off, ha, Nat.lt_of_lt_of_le hlt hb.size, fun i hi => (hb.cell (p := ⟨b, off + i, none⟩) hlt).trans (hc i hi)⟩
theorem RowB.at {w : World} {a : Option Addr} {xs : List Bool} (h : RowB w a xs) {i : Nat} (hi : i < xs.length) :
    ∃ b off, a = some ⟨b, off, none⟩ ∧ b < w.heap.size ∧ ∀ i, i < xs.length → w.cell? ⟨b, off + i, none⟩ = some (.bool (xs.getD i false)) := by
  rcases h with h | h
  · subst h; simp at hi
  · exact h
theorem RowB.of_own {w : World} {base : Nat} {e : TypeId} {v : Value} {n : Nat} {xs : List Bool} (h : w.ownsRow base e 1 v n (xs.map Value.bool)) :
    ∃ a cap, v = .slice a xs.length cap ∧ n = xs.length ∧ RowB w a xs := by
  obtain ⟨hl, h⟩ := h
  simp at hl
  rcases h with ⟨rfl, rfl⟩ | ⟨g, cap, cur, rfl, hg, hh, hn, hm, hs, ht⟩
  · have : xs = [] := by simpa using hl
    subst this
    exact ⟨none, 0, rfl, rfl, .inl rfl⟩
  · refine ⟨_, cap, by rw [hl], hl.symm, .inr ⟨g, 0, rfl, (Array.getElem?_eq_some_iff.1 hh).1, fun i hi => ?_⟩⟩
    have h1 : w.cell? ⟨g, 0 + i, none⟩ = cur[i]? := by simp [World.cell?, hh]
    rw [h1, ← Array.getElem?_toList]
    have h2 : (cur.toList.take (n * 1))[i]? = cur.toList[i]? := by rw [List.getElem?_take]; rw [if_pos (by omega)]
    rw [← h2, ht]
    simp [hi]
theorem Blk.rowB {w : World} {B : Nat} {t : TypeId} {xs : List Bool} (h : Blk w B t (xs.map Value.bool)) : RowB w (some ⟨B, 0, none⟩) xs := by
  refine .inr ⟨B, 0, rfl, h.lt, fun i hi => ?_⟩
  have := h.cell i
  simp [this, hi]
theorem infoInt : (Try.prog.info? 3).map (fun i => (i.zero, i.size, i.bytes)) = some (some (.int .i64 0), 1, 8) := by kernel_rfl
/-- make([]int, n). -/
theorem mk_ints (n : Nat) (hn : n ≤ 17592186044416) (w : World) : (Instr.makeSlice 22 (.int .i64 (n : Int)) (.int .i64 (n : Int))).run Try.prog w =
    .ok (.slice (some ⟨w.heap.size, 0, none⟩) n n) (w.alloc (.cells (madeCells #[.int .i64 0] n) 3)) := by
  obtain ⟨i, hi, hz0, hz1, hz2⟩ := info_parts infoInt
  have := run_make (P := Try.prog) w 22 3 i (.int .i64 0) Try.underlying22 hi hz0 .i64 .i64 n n (by omega) (Int.le_refl _) (by rw [hz2]; omega) (by omega)
  rw [this, hz1]
  simp [Value.cells]
theorem Arr.made (w : World) (n : Nat) : Arr (w.alloc (.cells (madeCells #[.int .i64 0] n) 3)) w.heap.size 3 (List.replicate n 0) := by
  have := Blk.new w 3 (madeCells #[.int .i64 0] n)
  rw [toList_madeCells_one] at this
  unfold Arr
  simpa using this
end Go.Proofs.Ytmfgkimbehkdeaa
namespace Go.Proofs.Ytmfgkimbehkdeaa
open Go.RowKit
set_option linter.unusedSimpArgs false
set_option linter.unusedVariables false
theorem own_base_o {w : World} {base : Nat} {e : TypeId} {v : Value} {n : Nat} {xs : List Value} (h : w.ownsRow base e 1 v n xs) : ∀ g, v.ownBlock = some g → base ≤ g := by
  intro g hg
  obtain ⟨hl, h⟩ := h
  rcases h with ⟨rfl, rfl⟩ | ⟨g', cap, cur, rfl, hg', hh, _⟩
  · cases hg
  · cases hg; exact hg'
theorem one_int_o (k : IntKind) (x : Int) : ∀ u ∈ [Value.int k x], u.oneCell' = true := by
  intro u hu
  simp at hu
  subst hu
  rfl
theorem own_slice_o {w : World} {base : Nat} {e : TypeId} {v : Value} {n : Nat} {xs : List Value} (h : w.ownsRow base e 1 v n xs) : ∃ a cap, v = .slice a n cap := by
  rcases h.2 with ⟨rfl, rfl⟩ | ⟨g, cap, cur, rfl, _⟩
  · exact ⟨none, 0, rfl⟩
  · exact ⟨_, cap, rfl⟩
theorem own_cap_o {w : World} {base : Nat} {e : TypeId} {a : Option Addr} {n m cap : Nat} {xs : List Value} (h : w.ownsRow base e 1 (.slice a m cap) n xs) : m ≤ cap := by
  rcases h.2 with ⟨h1, rfl⟩ | ⟨g, cap', cur, h1, _, _, h2, _⟩
  · simp at h1; omega
  · simp at h1; omega
theorem own_cells_o {w : World} {base : Nat} {e : TypeId} {v : Value} {n : Nat} {xs : List Value} (h : w.ownsRow base e 1 v n xs) : ∀ g, v.ownBlock = some g → ∃ c t q, w.heap[g]? = some (.cells c t q) := by
  intro g hg
  rcases h.2 with ⟨rfl, rfl⟩ | ⟨g', cap, cur, rfl, _, hh, _⟩
  · cases hg
  · cases hg; exact ⟨_, _, _, hh⟩
theorem grown_setCell_o (w : World) (a : Addr) (v : Value) : w.grownBy (w.setCell a v) (some a.block) :=
  ⟨rfl, rfl, rfl, by simp, fun k hk hne => by
    have : a.block ≠ k := fun e => hne (by rw [e])
    simp [World.setCell, Array.getElem?_modify, this]⟩
theorem keepsFrom_grown_o {B : Nat} {w w' : World} {row : Option Nat} (h : w.grownBy w' row) (hr : ∀ g, row = some g → ∃ c t q, w.heap[g]? = some (.cells c t q)) : KeepsFrom B w w' :=
  ⟨h.size, fun k o _ hk ho => by
    rw [h.block k (Array.getElem?_eq_some_iff.1 hk).1 (fun e => by
      obtain ⟨c, t, q, h2⟩ := hr k e.symm
      rw [hk] at h2
      cases h2
      simp [Obj.isCells] at ho)]
    exact hk⟩
end Go.Proofs.Ytmfgkimbehkdeaa
namespace Go.Proofs.Ytmfgkimbehkdeaa
open Go.RowKit
set_option linter.unusedSimpArgs false
set_option linter.unusedVariables false
/-- What is read at a slice: these cells, or nothing. -/
def RowV (w : World) (a : Option Addr) (vs : List Value) : Prop := vs = [] ∨ ∃ ad, a = some ad ∧ ∀ j u, vs[j]? = some u → w.cell? (ad.add j) = some u
theorem Row.vals {k : IntKind} {w : World} {a : Option Addr} {xs : List Int} (h : Row k w a xs) : RowV w a (xs.map (Value.int k)) := by
  rcases h with rfl | ⟨b, off, rfl, hb, hc⟩
  · exact .inl rfl
  · refine .inr ⟨_, rfl, fun j u hj => ?_⟩
    simp only [List.getElem?_map, Option.map_eq_some_iff] at hj
    obtain ⟨x, hx, rfl⟩ := hj
    have hlt := (List.getElem?_eq_some_iff.1 hx).1
    have := hc j hlt
    rw [List.getD_eq_getElem?_getD, hx] at this
    simpa [Addr.add_lit] using this
theorem RowB.vals {w : World} {a : Option Addr} {xs : List Bool} (h : RowB w a xs) : RowV w a (xs.map Value.bool) := by
  rcases h with rfl | ⟨b, off, rfl, hb, hc⟩
  · exact .inl rfl
  · refine .inr ⟨_, rfl, fun j u hj => ?_⟩
    simp only [List.getElem?_map, Option.map_eq_some_iff] at hj
    obtain ⟨x, hx, rfl⟩ := hj
    have hlt := (List.getElem?_eq_some_iff.1 hx).1
    have := hc j hlt
    rw [List.getD_eq_getElem?_getD, hx] at this
    simpa [Addr.add_lit] using this
theorem run_append_any {P : Program} (w : World) (base : Nat) (t ty e : TypeId) (i : TypeInfo) (z : Value) (bytes : Nat) (ht : P.underlying t = some (.slice e)) (hi : P.info? e = some i) (hz : i.zero = some z)
    (hsize : i.size = 1) (hby : i.bytes = bytes) (hzs : z.cells.size = 1) (v : Value) (n : Nat) (xs : List Value) (hown : w.ownsRow base e 1 v n xs)
    (a : Option Addr) (m c : Nat) (news : List Value) (hl : news.length = m) (hrow : RowV w a news) (h1 : ∀ u ∈ news, u.oneCell' = true)
    (h63 : n + m ≤ maxLen) (hbytes : (n + m) * bytes ≤ 140737488355328) (hbase : base ≤ w.heap.size) (hv : v ≠ .slice none 0 0) :
    ∃ v' w', (Builtin.append_ #[t, t] ty #[v, .slice a m c]).run P w = .ok v' w' ∧ w'.ownsRow base e 1 v' (n + m) (xs ++ news) ∧ w.grownBy w' v.ownBlock := by
  cases a with
  | some ad =>
    have hc : ∀ j u, news[j]? = some u → w.cell? (ad.add j) = some u := by
      rcases hrow with rfl | ⟨ad', h, hc⟩
      · intro j u h; simp at h
      · cases h; exact hc
    obtain ⟨v', w', h2, h3, h4, _⟩ := run_append_own (P := P) w base t ty e i z 1 bytes ht hi hz hsize hby hzs (by decide) v n xs hown ad m c news (by simpa using hl) hc h1 h63 hbytes hbase
    exact ⟨v', w', h2, h3, h4⟩
  | none =>
    have hnil : news = [] := by
      rcases hrow with h | ⟨ad', h, _⟩
      · exact h
      · cases h
    subst hnil
    simp at hl
    subst hl
    obtain ⟨ho1, ho2⟩ := hown
    rcases ho2 with ⟨h, _⟩ | ⟨g, cap, cur, rfl, hg, hh, hn, r⟩
    · exact absurd h hv
    · have hs : Src P i.size t (.slice none 0 c) 0 [] w := Src.ofNil (P := P) (e' := e) w ht c
      have hr := run_append_room_src (P := P) w t t ty e i ht hi g 0 n cap (.slice none 0 c) 0 [] hs (by omega) (by simp) (by simp)
      refine ⟨_, _, hr, ?_, ?_⟩
      · simp only [World.setCells]
        refine ⟨by simpa using ho1, .inr ⟨g, cap, cur, rfl, hg, hh, hn, by simpa using r⟩⟩
      · simp only [World.setCells]
        exact ⟨rfl, rfl, rfl, Nat.le_refl _, fun _ _ _ => rfl⟩
theorem wpList_append_any {P : Program} (w : World) {ops : Array Oper} {rest : List Oper} {o : Oper} {act : Act} {Q : Exit → Act → World → Prop} (hgd : o.guard = none) (s x : Operand) (t : TypeId)
    (ho : o.op = .call { callee := .builtin .append, args := #[s, x], argTypes := #[t, t] })
    (base : Nat) (e : TypeId) (i : TypeInfo) (z : Value) (bytes : Nat) (ht : P.underlying t = some (.slice e)) (hi : P.info? e = some i) (hz : i.zero = some z)
    (hsize : i.size = 1) (hby : i.bytes = bytes) (hzs : z.cells.size = 1) (v : Value) (n : Nat) (xs : List Value) (hs : act.eval s = v) (hown : w.ownsRow base e 1 v n xs)
    (a : Option Addr) (m c : Nat) (news : List Value) (hx : act.eval x = .slice a m c) (hl : news.length = m) (hrow : RowV w a news) (h1 : ∀ u ∈ news, u.oneCell' = true)
    (h63 : n + m ≤ maxLen) (hbytes : (n + m) * bytes ≤ 140737488355328) (hbase : base ≤ w.heap.size) (hv : v ≠ .slice none 0 0)
    (h : ∀ v' w', w'.ownsRow base e 1 v' (n + m) (xs ++ news) → w.grownBy w' v.ownBlock → wpList P ops Q rest (act.put o.dst v') w') : wpList P ops Q (o :: rest) act w := by
  refine wpList_plain hgd fun K hK => ?_
  obtain ⟨v', w', hr, h2, h3⟩ := run_append_any (P := P) w base t o.type e i z bytes ht hi hz hsize hby hzs v n xs hown a m c news hl hrow h1 h63 hbytes hbase hv
  unfold Oper.wp execOp
  simp only [ho, resolve, invoke, builtin, Sem.run_bind, Sem.run_pure, Result.andThen_ok, List.map_toArray, List.map_cons, List.map_nil, hs, hx, hr]
  exact hK _ _ (h v' w' h2 h3)
/-- A new empty row is owned. -/
theorem ownsRow_made (w : World) (e : TypeId) : (w.alloc (.cells #[] e)).ownsRow w.heap.size e 1 (.slice (some ⟨w.heap.size, 0, none⟩) 0 0) 0 [] :=
  ⟨rfl, .inr ⟨_, 0, #[], rfl, Nat.le_refl _, heap_alloc_new _ _, Nat.le_refl _, by unfold maxLen; omega, rfl, rfl⟩⟩
theorem ints_one (k : IntKind) (xs : List Int) : ∀ u ∈ xs.map (Value.int k), u.oneCell' = true := by
  intro u hu
  obtain ⟨x, _, rfl⟩ := List.mem_map.1 hu
  rfl
theorem bools_one (xs : List Bool) : ∀ u ∈ xs.map Value.bool, u.oneCell' = true := by
  intro u hu
  obtain ⟨x, _, rfl⟩ := List.mem_map.1 hu
  rfl
end Go.Proofs.Ytmfgkimbehkdeaa
namespace Go.Proofs.Ytmfgkimbehkdeaa
open Go.RowKit
set_option linter.unusedSimpArgs false
set_option linter.unusedVariables false
theorem run_append_any2 {P : Program} (w : World) (base : Nat) (t ty e : TypeId) (i : TypeInfo) (z : Value) (size bytes : Nat) (ht : P.underlying t = some (.slice e)) (hi : P.info? e = some i) (hz : i.zero = some z)
    (hsize : i.size = size) (hby : i.bytes = bytes) (hzs : z.cells.size = size) (hsz : 0 < size) (v : Value) (n : Nat) (xs : List Value) (hown : w.ownsRow base e size v n xs)
    (a : Option Addr) (m c : Nat) (news : List Value) (hl : news.length = m * size) (hrow : RowV w a news) (h1 : ∀ u ∈ news, u.oneCell' = true)
    (h63 : n + m ≤ maxLen) (hbytes : (n + m) * bytes ≤ 140737488355328) (hbase : base ≤ w.heap.size) (hv : v ≠ .slice none 0 0) :
    ∃ v' w', (Builtin.append_ #[t, t] ty #[v, .slice a m c]).run P w = .ok v' w' ∧ w'.ownsRow base e size v' (n + m) (xs ++ news) ∧ w.grownBy w' v.ownBlock ∧ v' ≠ .slice none 0 0 := by
  cases a with
  | some ad =>
    have hc : ∀ j u, news[j]? = some u → w.cell? (ad.add j) = some u := by
      rcases hrow with rfl | ⟨ad', h, hc⟩
      · intro j u h; simp at h
      · cases h; exact hc
    obtain ⟨v', w', h2, h3, h4, h5⟩ := run_append_own (P := P) w base t ty e i z size bytes ht hi hz hsize hby hzs hsz v n xs hown ad m c news hl hc h1 h63 hbytes hbase
    exact ⟨v', w', h2, h3, h4, fun h => hv (h5.1 h).1⟩
  | none =>
    have hnil : news = [] := by
      rcases hrow with h | ⟨ad', h, _⟩
      · exact h
      · cases h
    subst hnil
    have hm0 : m = 0 := by
      rcases Nat.eq_zero_or_pos m with h | h
      · exact h
      · have := Nat.mul_pos h hsz
        simp at hl
        omega
    subst hm0
    obtain ⟨ho1, ho2⟩ := hown
    rcases ho2 with ⟨h, _⟩ | ⟨g, cap, cur, rfl, hg, hh, hn, r⟩
    · exact absurd h hv
    · have hs : Src P i.size t (.slice none 0 c) 0 [] w := Src.ofNil (P := P) (e' := e) w ht c
      have hr := run_append_room_src (P := P) w t t ty e i ht hi g 0 n cap (.slice none 0 c) 0 [] hs (by omega) (by simp) (by simp)
      refine ⟨_, _, hr, ?_, ?_, by simp⟩
      · simp only [World.setCells]
        refine ⟨by simpa using ho1, .inr ⟨g, cap, cur, rfl, hg, hh, hn, by simpa using r⟩⟩
      · simp only [World.setCells]
        exact ⟨rfl, rfl, rfl, Nat.le_refl _, fun _ _ _ => rfl⟩
theorem wpList_append_any_g {P : Program} (w : World) {ops : Array Oper} {rest : List Oper} {o : Oper} {act : Act} {Q : Exit → Act → World → Prop} (hw : Region.wanted o (yielded ops act.tmps) = true) (s x : Operand) (t : TypeId)
    (ho : o.op = .call { callee := .builtin .append, args := #[s, x], argTypes := #[t, t] })
    (base : Nat) (e : TypeId) (i : TypeInfo) (z : Value) (size bytes : Nat) (ht : P.underlying t = some (.slice e)) (hi : P.info? e = some i) (hz : i.zero = some z)
    (hsize : i.size = size) (hby : i.bytes = bytes) (hzs : z.cells.size = size) (hsz : 0 < size) (v : Value) (n : Nat) (xs : List Value) (hs : act.eval s = v) (hown : w.ownsRow base e size v n xs)
    (a : Option Addr) (m c : Nat) (news : List Value) (hx : act.eval x = .slice a m c) (hl : news.length = m * size) (hrow : RowV w a news) (h1 : ∀ u ∈ news, u.oneCell' = true)
    (h63 : n + m ≤ maxLen) (hbytes : (n + m) * bytes ≤ 140737488355328) (hbase : base ≤ w.heap.size) (hv : v ≠ .slice none 0 0)
    (h : ∀ v' w', w'.ownsRow base e size v' (n + m) (xs ++ news) → w.grownBy w' v.ownBlock → v' ≠ .slice none 0 0 → wpList P ops Q rest (act.put o.dst v') w') : wpList P ops Q (o :: rest) act w := by
  refine wpList_step fun K hK => ?_
  rw [if_pos hw]
  obtain ⟨v', w', hr, h2, h3, h4⟩ := run_append_any2 (P := P) w base t o.type e i z size bytes ht hi hz hsize hby hzs hsz v n xs hown a m c news hl hrow h1 h63 hbytes hbase hv
  unfold Oper.wp execOp
  simp only [ho, resolve, invoke, builtin, Sem.run_bind, Sem.run_pure, Result.andThen_ok, List.map_toArray, List.map_cons, List.map_nil, hs, hx, hr]
  exact hK _ _ (h v' w' h2 h3 h4)
theorem ownsRow_made2 (w : World) (e : TypeId) (s : Nat) : (w.alloc (.cells #[] e)).ownsRow w.heap.size e s (.slice (some ⟨w.heap.size, 0, none⟩) 0 0) 0 [] :=
  ⟨by simp, .inr ⟨_, 0, #[], rfl, Nat.le_refl _, heap_alloc_new _ _, Nat.le_refl _, by unfold maxLen; omega, by simp, by simp⟩⟩
end Go.Proofs.Ytmfgkimbehkdeaa
namespace Go.Proofs.Ytmfgkimbehkdeaa
open Go.RowKit
set_option linter.unusedSimpArgs false
set_option linter.unusedVariables false
theorem Row.of_block {k : IntKind} {w : World} {b : Nat} {cs : Array Value} {e : TypeId} {fr : Nat × Nat} {xs : List Int} (h : w.heap[b]? = some (.cells cs e fr)) (hx : cs = (xs.map (Value.int k)).toArray) : Row k w (some ⟨b, 0, none⟩) xs := by
  refine .inr ⟨b, 0, rfl, (Array.getElem?_eq_some_iff.1 h).1, fun i hi => ?_⟩
  simp [World.cell?, h, hx, hi]
theorem RowB.of_block {w : World} {b : Nat} {cs : Array Value} {e : TypeId} {fr : Nat × Nat} {xs : List Bool} (h : w.heap[b]? = some (.cells cs e fr)) (hx : cs = (xs.map Value.bool).toArray) : RowB w (some ⟨b, 0, none⟩) xs := by
  refine .inr ⟨b, 0, rfl, (Array.getElem?_eq_some_iff.1 h).1, fun i hi => ?_⟩
  simp [World.cell?, h, hx, hi]
theorem kn_same (a b : Option Addr) (xs : List Int) (n ca cb : Nat) (w : World) (ha : Row .i64 w a xs) (hb : Row .i64 w b xs) (hn : n = xs.length) (hl : n ≤ 9223372036854775807) :
    Calls Try.prog 14 #[.slice a n ca, .slice b n cb] w fun e w' => e = .returned (.bool true) ∧ Below w.heap.size w w' := by
  subst hn
  have := sameInts_k a b xs xs ca cb w ha hb hl
  simpa using this
theorem add_zero' (a : Addr) : a.add 0 = a := by
  cases a with
  | mk b o s => simp [Addr.add]
/-- s[:m] keeps the address. -/
theorem run_slice_to {P : Program} (w : World) (t e : TypeId) (ht : P.underlying t = some (.slice e)) (sz : Nat) (hsz : (sizeOf e).run P w = .ok sz w) (a : Option Addr) (n c m : Nat) (h : m ≤ c) :
    (Instr.slice t (.slice a n c) none (some (.int .i64 (m : Int))) none).run P w = .ok (.slice a m c) w := by
  have h1 : ((0 : Int) ≤ (m : Int) ∧ (m : Int) ≤ (c : Int)) := by omega
  have h2 : (if c = 0 then a else a.map (·.add (0 * sz))) = a := by
    split
    · rfl
    · cases a <;> simp [add_zero']
  simp [Instr.slice, Instr.sliceBounds, Instr.sliceBound, asIntOf, run_underlying ht, Result.andThen, hsz, h]
  simpa using h2
theorem Row.laterOf {W : World} {x : Later W} {k : IntKind} {a : Option Addr} {xs : List Int} (h : Row k W a xs) : Row k x.w a xs := h.later x.2
section
open Go.ChangeShapes Go.WideShapes Go.Deep
variable {H : Type} {enc : TypeId × Value → H} {P : Program} {w : World} {base : Nat} {spare : Nat → Bool} {held : Bool}
/-- The fields, one cell each, of a struct that came in. -/
theorem open_fields {r : Reach} {b0 : Nat} {t : TypeId} {fs : Array Field} {v : Value} {d : DataW H} {p : List MemPlace} (hs : P.underlying t = some (.struct fs)) (hone : oneCellFields P fs = true) (hC : P.cellsOf t = fs.size)
    (hv : Value.okWide P w r b0 t v) (h : DataW.Trod enc P w base spare held t v d p) :
    ∃ (cs : Array Value) (n : Nat), v = .agg cs ∧ cs.size = fs.size ∧ ∀ (j : Nat) (f : Field) (c : Value), fs[j]? = some f → cs[j]? = some c → ∃ y, DataW.trod enc P w base spare held n f.type [c] = some y := by
  obtain ⟨cs, rfl, hsz⟩ := okWide_struct hs hv
  obtain ⟨fuel, hf⟩ := h
  obtain ⟨xs, n, _, _, _, _, hg⟩ := DataW.trod_struct hs hf
  refine ⟨cs, n, rfl, by rw [hsz, hC], fun j f c hj hc => ?_⟩
  obtain ⟨o, k⟩ := hone_of hone j f hj
  have h1 := hg j f hj
  rw [o, k] at h1
  obtain ⟨hjl, hce⟩ := Array.getElem?_eq_some_iff.1 hc
  have h2 : ((Value.agg cs).cells.toList.drop j).take 1 = [c] := by
    simp only [Value.cells]
    rw [List.drop_eq_getElem_cons (by simpa using hjl)]
    simp [hce]
  rw [h2] at h1
  have hjx : j < xs.length := by
    have := (Array.getElem?_eq_some_iff.1 hj).1
    omega
  exact ⟨xs[j], by rw [h1]; exact List.getElem?_eq_getElem hjx⟩
end
end Go.Proofs.Ytmfgkimbehkdeaa
namespace Go.Proofs.Ytmfgkimbehkdeaa
open Go.RowKit
set_option linter.unusedSimpArgs false
set_option linter.unusedVariables false
theorem tmod_pos' {a b : Int} (hb : 0 < b) (h : 0 ≤ a.tmod b) : a.tmod b = a % b := by
  rw [Int.tmod_eq_emod] at *
  have := Int.emod_nonneg a (b := b) (by omega)
  have h2 := Int.emod_lt_of_pos a hb
  split at h <;> split <;> simp_all <;> omega
theorem tmod_neg' {a b : Int} (hb : 0 < b) (h : a.tmod b < 0) : a.tmod b + b = a % b := by
  rw [Int.tmod_eq_emod] at *
  have := Int.emod_nonneg a (b := b) (by omega)
  have h2 := Int.emod_lt_of_pos a hb
  split at h <;> split <;> simp_all <;> omega
theorem modK (a b : Int) (hb : 1 ≤ b) (hb2 : b ≤ 4611686018427387904) (w : World) :
    Calls Try.prog 26 #[.int .i64 a, .int .i64 b] w fun e w' => e = .returned (.int .i64 (a % b)) ∧ Below w.heap.size w w' := by
  have h1 := Int.lt_tmod_of_pos a (b := b) (by omega)
  have h2 := Int.tmod_lt_of_pos a (b := b) (by omega)
  go_enter Try.func26, Try.ntmps26
  go_wp2
  all_goals go_ret
  · rw [← tmod_neg' (by omega) (by assumption)]
    exact ⟨rfl, Below.refl _ _⟩
  · rw [← tmod_pos' (by omega) (by assumption)]
    exact ⟨rfl, Below.refl _ _⟩
end Go.Proofs.Ytmfgkimbehkdeaa
