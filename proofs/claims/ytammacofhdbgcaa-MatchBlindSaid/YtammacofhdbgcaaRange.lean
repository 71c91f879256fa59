/-
  A range over a function, for a plain walk: the iterator and the rounds know by its number which element comes. Own law, over the model's own steps of the statement. No program in sight.
-/
import Derived.Test.YtammacofhdbgcaaCommon
import Derived.RangeFuncNested
import Derived.RangeFuncBound
import Derived.RangeFuncCalls
import Derived.RangeFuncLeaves
import Derived.Deep.Light
namespace Go.Proofs.Ytammacofhdbgcaa
open Go.RowKit
set_option linter.unusedSimpArgs false
set_option linter.unusedVariables false
/-- From A to A': what is cells, and what lies below B, lies as it lay; other blocks at or beyond B may have turned; new blocks. -/
structure Keep (B : Nat) (A A' : World) : Prop where
  os : A'.os = A.os
  tape : A'.tape = A.tape
  output : A'.output = A.output
  size : A.heap.size ≤ A'.heap.size
  block : ∀ (k : Nat) (o : Obj), A.heap[k]? = some o → (k < B ∨ o.isCells = true) → A'.heap[k]? = some o
theorem Keep.refl (B : Nat) (A : World) : Keep B A A := ⟨rfl, rfl, rfl, Nat.le_refl _, fun _ _ h _ => h⟩
theorem Keep.trans {B : Nat} {X Y Z : World} (h : Keep B X Y) (k : Keep B Y Z) : Keep B X Z :=
  ⟨k.os.trans h.os, k.tape.trans h.tape, k.output.trans h.output, Nat.le_trans h.size k.size, fun i o hi ho => k.block i o (h.block i o hi ho) ho⟩
theorem Keep.of_below {B : Nat} {A A' : World} (h : Below A.heap.size A A') : Keep B A A' :=
  ⟨h.os, h.tape, h.output, h.size, fun k o hk _ => (h.block k (Array.getElem?_eq_some_iff.1 hk).1).trans hk⟩
theorem Keep.putObj {B : Nat} {A : World} {r : Nat} {o : Obj} (o' : Obj) (hB : B ≤ r) (h : A.heap[r]? = some o) (hc : o.isCells = false) : Keep B A (A.putObj r o') :=
  ⟨rfl, rfl, rfl, by simp [World.putObj], fun k o'' hk ho => by
    by_cases e : k = r
    · subst e
      rw [h] at hk; cases hk
      rcases ho with ho | ho
      · omega
      · rw [hc] at ho; cases ho
    · exact (World.putObj_heap_other e).trans hk⟩
theorem Keep.cell {B : Nat} {A A' : World} (h : Keep B A A') {a : Addr} {v : Value} (hc : A.cell? a = some v) : A'.cell? a = some v := by
  unfold World.cell? at hc ⊢
  cases ho : A.heap[a.block]? with
  | none => simp [ho] at hc
  | some o =>
    cases o <;> simp [ho] at hc
    rw [h.block _ _ ho (.inr rfl)]
    simpa using hc
theorem Keep.frozen {B : Nat} {A A' : World} (h : Keep B A A') {a : Addr} {v : Value} (hc : A.cell? a = some v) : A'.frozen? a = A.frozen? a := by
  unfold World.cell? at hc
  unfold World.frozen?
  cases ho : A.heap[a.block]? with
  | none => simp [ho] at hc
  | some o =>
    cases o <;> simp [ho] at hc
    rw [h.block _ _ ho (.inr rfl)]
theorem Keep.ownsRow {B : Nat} {A A' : World} (h : Keep B A A') {base : Nat} {e : TypeId} {size : Nat} {v : Value} {n : Nat} {xs : List Value} (ho : A.ownsRow base e size v n xs) : A'.ownsRow base e size v n xs := by
  obtain ⟨h1, h2⟩ := ho
  refine ⟨h1, ?_⟩
  rcases h2 with h2 | ⟨g, cap, cur, hv, hg, hh, r⟩
  · exact .inl h2
  · exact .inr ⟨g, cap, cur, hv, hg, h.block _ _ hh (.inr rfl), r⟩
theorem Keep.below {B B' : Nat} {X A A' : World} (h : Keep B A A') (hb : Below B' X A) (h1 : B' ≤ B) (h2 : B' ≤ A.heap.size) : Below B' X A' :=
  hb.trans ⟨h.os, h.tape, h.output, h.size, fun k hk => by
    have hlt : k < A.heap.size := by omega
    rw [h.block k _ (Array.getElem?_eq_getElem hlt) (.inl (by omega)), Array.getElem?_eq_getElem hlt]⟩
theorem keepsFrom_of_below {B : Nat} {W W' : World} (h : Below W.heap.size W W') : KeepsFrom B W W' :=
  ⟨h.size, fun k o _ hk _ => (h.block k (Array.getElem?_eq_some_iff.1 hk).1).trans hk⟩
/-- One call of yield in a round's frame: it goes on, and Jn holds; or it has said no more, and Jx holds. -/
def RoundOk (P : Program) (l : Nat) (args : Array Value) (W : World) (Jn Jx : World → Prop) : Prop :=
  YieldAt Fence.wide 0 P l args W fun e W' => (e = .returned (.bool true) ∧ Jn W') ∨ (e = .returned (.bool false) ∧ Jx W')
/-- How a round's body may be left. -/
def rangeOut (B : Nat) (W : World) (I : World → Prop) (Ix : Code → World → Prop) : Exit → Act → World → Prop
  | .normal, _, W' => KeepsFrom B W W' ∧ I W'
  | .ret, _, W' => KeepsFrom B W W' ∧ Ix .ret W'
  | .exit id, _, W' => KeepsFrom B W W' ∧ Ix (.exit id) W'
  | .goto t, _, W' => KeepsFrom B W W' ∧ Ix (.goto t) W'
  | .panic _, _, _ => False
  | .outgrown, _, _ => False
/-- THE LAW. I i: what holds when i rounds are over; Ix c: a round has left by the jump c; A i a W: behind the assignment of the i-th element. -/
theorem wp_range {P : Program} {g : Operand} {ps : Array Tmp} {assign body : Code} {Q : Exit → Act → World → Prop} {a : Act} {w : World}
    {gf : Nat} {lb : Array Value} (hg : a.eval g = .func (.func gf) #[] lb) (eg : ∀ args w, (callFunc gf args).run P w = .ok (.enter gf args) w)
    (N : Nat) (xs : Nat → Array Value) (hps : ∀ i, (xs i).size = ps.size)
    (I : Nat → World → Prop) (Ix : Code → World → Prop) (A : Nat → Act → World → Prop)
    (hI : ∀ i X Y, Keep w.heap.size X Y → I i X → I i Y) (hIx : ∀ c X Y, Keep w.heap.size X Y → Ix c X → Ix c Y) (hA : ∀ i a' X Y, Keep w.heap.size X Y → A i a' X → A i a' Y)
    (h0 : I 0 w)
    (hassign : ∀ i W, i < N → I i W → assign.wpIn (Fence.wide.inRound (w.heap.size + 1)) 0 P (Exit.then (fun a₁ W1 => KeepsFrom w.heap.size W W1 ∧ A i a₁ W1) (fun _ _ _ => False))
      { tmps := (ps.zip (xs i)).foldl (fun t (p, v) => t.setIfInBounds p v) a.tmps, defers := [] } W)
    (hbody : ∀ i a₁ W, i < N → w.heap.size + 1 < W.heap.size → A i a₁ W → body.wpIn (Fence.wide.inRound (w.heap.size + 1)) 0 P (rangeOut w.heap.size W (I (i + 1)) Ix) a₁ W)
    (hiter : ∀ (l : Nat) (J : Nat → World → Prop) (Jx : World → Prop) (W : World), Below w.heap.size w W → (∀ i X Y, Below X.heap.size X Y → J i X → J i Y) → (∀ i X, J i X → I i X) → (∀ X, Jx X → ∃ c, Ix c X) →
      (∀ i X, i < N → J i X → RoundOk P l (xs i) X (J (i + 1)) Jx) → J 0 W →
      Calls P gf (#[.func (.yield l) #[] #[]] ++ lb) W fun e W' => (∃ v, e = .returned v) ∧ (J N W' ∨ Jx W'))
    (hdone : ∀ D W, w.heap.size ≤ D → I N W → W.heap[D]? = some (.deferred (some [])) → Q .normal { a with defers := { target := .collected D, args := #[] } :: a.defers } W)
    (hstop : ∀ D c W, w.heap.size ≤ D → Ix c W → W.heap[D]? = some (.deferred (some [])) → c.wp P Q { a with defers := { target := .collected D, args := #[] } :: a.defers } W) :
    (Code.rangeFunc g ps assign body).wp P Q a w := by
  refine wpIn_wide (n := 0) |>.1 (wpIn_rangeFunc ?_)
  intro fn hfn
  obtain ⟨rc, hrc⟩ : ∃ rc : LoopState → Option Code → Loop, rc = fun st pe => { state := st, pending := pe, fn, tmps := a.tmps, params := ps, assign, body, defers := w.heap.size } := ⟨_, rfl⟩
  obtain ⟨W1, hW1⟩ : ∃ W1, (w.alloc (.deferred (some []))).alloc (.loop (rc .ready none)) = W1 := ⟨_, rfl⟩
  have hL1 : W1.heap[w.heap.size + 1]? = some (.loop (rc .ready none)) := by
    rw [← hW1]; have := heap_alloc_new (w.alloc (.deferred (some []))) (.loop (rc .ready none)); rwa [World.size_alloc] at this
  have hD1 : W1.heap[w.heap.size]? = some (.deferred (some [])) := by
    rw [← hW1]; exact (Below.heap_alloc _ _ _ (by simp)).trans (heap_alloc_new w _)
  have hb1 : Below w.heap.size w W1 := by
    rw [← hW1]; exact ((Below.refl _ w).alloc (Nat.le_refl _) _).alloc (by simp) _
  have hI1 : I 0 W1 := hI 0 w W1 (Keep.of_below hb1) h0
  refine ⟨w.heap.size + 1, [{ target := .collected w.heap.size, args := #[] }], W1, { target := .fn (.func gf) lb, args := #[.func (.yield (w.heap.size + 1)) #[] #[]] }, W1, gf,
    #[.func (.yield (w.heap.size + 1)) #[] #[]] ++ lb, W1, ?_, ?_, fun _ _ => trivial, ?_, fun h => by simp [Fence.wide] at h, ?_⟩
  · rw [← hW1, hrc]; exact run_enterLoop_outer _ _ _ _ _
  · simp only [resolve, hg]
    simp [go_sem]
  · simp [invoke, go_sem, eg]
  · refine callsIn_wide.2 ((hiter (w.heap.size + 1)
      (fun i W => I i W ∧ W.heap[w.heap.size + 1]? = some (.loop (rc .ready none)) ∧ W.heap[w.heap.size]? = some (.deferred (some [])))
      (fun W => ∃ c, Ix c W ∧ W.heap[w.heap.size + 1]? = some (.loop (rc .done (some c))) ∧ W.heap[w.heap.size]? = some (.deferred (some [])))
      W1 hb1 ?_ (fun i X h => h.1) (fun X ⟨c, h, _⟩ => ⟨c, h⟩) ?_ ⟨hI1, hL1, hD1⟩).mono ?_)
    · rintro i X Y hb ⟨h1, h2, h3⟩
      exact ⟨hI i X Y (Keep.of_below hb) h1, (hb.block _ (Array.getElem?_eq_some_iff.1 h2).1).trans h2, (hb.block _ (Array.getElem?_eq_some_iff.1 h3).1).trans h3⟩
    · rintro i W hi ⟨hi1, hl, hd⟩
      have hy := run_yield (P := P) (args := xs i) hl (by rw [hrc]; exact hps i)
      rw [hrc] at hy
      refine ⟨fn, _, assign, body, hy, roundIn_of_wpIn trivial (wpIn_mono (hassign i W hi hi1) ?_)⟩
      clear hy
      rintro e a₁ Wa hq
      cases e with
      | normal =>
        obtain ⟨hkf, ha⟩ := hq
        have hla := hkf.same _ _ (by omega) hl rfl
        have hda := hkf.same _ _ (Nat.le_refl _) hd rfl
        have hlt : w.heap.size + 1 < Wa.heap.size := (Array.getElem?_eq_some_iff.1 hla).1
        refine ⟨_, run_beginRound hla (by rw [hrc]), ?_⟩
        obtain ⟨Wb, hWb⟩ : ∃ Wb, Wa.putObj (w.heap.size + 1) (.loop { rc .ready none with state := .busy }) = Wb := ⟨_, rfl⟩
        have hlb : Wb.heap[w.heap.size + 1]? = some (.loop { rc .ready none with state := .busy }) := by rw [← hWb]; exact World.putObj_heap_same hlt
        have hdb : Wb.heap[w.heap.size]? = some (.deferred (some [])) := by rw [← hWb]; exact (World.putObj_heap_other (by omega)).trans hda
        have hab : A i a₁ Wb := hA i a₁ Wa Wb (by rw [← hWb]; exact Keep.putObj _ (by omega) hla rfl) ha
        rw [hWb]
        refine wpIn_mono (hbody i a₁ Wb hi (Array.getElem?_eq_some_iff.1 hlb).1 hab) ?_
        have fin : ∀ (jump : Option Code) (W3 : World), KeepsFrom w.heap.size Wb W3 →
            (Instr.endRound (w.heap.size + 1) jump).run P W3 = .ok (.bool jump.isNone) (W3.putObj (w.heap.size + 1) (.loop (rc (if jump.isNone then .ready else .done) jump))) ∧
            Keep w.heap.size W3 (W3.putObj (w.heap.size + 1) (.loop (rc (if jump.isNone then .ready else .done) jump))) ∧
            (W3.putObj (w.heap.size + 1) (.loop (rc (if jump.isNone then .ready else .done) jump))).heap[w.heap.size + 1]? = some (.loop (rc (if jump.isNone then .ready else .done) jump)) ∧
            (W3.putObj (w.heap.size + 1) (.loop (rc (if jump.isNone then .ready else .done) jump))).heap[w.heap.size]? = some (.deferred (some [])) := fun jump W3 hk3 => by
          have hl3 := hk3.same _ _ (by omega) hlb rfl
          have hd3 := hk3.same _ _ (Nat.le_refl _) hdb rfl
          have := run_endRound (P := P) jump hl3
          rw [hrc] at this ⊢
          exact ⟨this, Keep.putObj _ (by omega) hl3 rfl, World.putObj_heap_same (Array.getElem?_eq_some_iff.1 hl3).1, (World.putObj_heap_other (by omega)).trans hd3⟩
        rintro e a3 W3 hp
        cases e with
        | normal =>
          obtain ⟨hk3, hi3⟩ := hp
          obtain ⟨hr, hkp, hl4, hd4⟩ := fin none W3 hk3
          exact ⟨_, _, hr, .inl ⟨rfl, hI _ _ _ hkp hi3, hl4, hd4⟩⟩
        | ret =>
          obtain ⟨hk3, hi3⟩ := hp
          obtain ⟨hr, hkp, hl4, hd4⟩ := fin (some .ret) W3 hk3
          exact ⟨_, _, hr, .inr ⟨rfl, .ret, hIx _ _ _ hkp hi3, hl4, hd4⟩⟩
        | exit id =>
          obtain ⟨hk3, hi3⟩ := hp
          obtain ⟨hr, hkp, hl4, hd4⟩ := fin (some (.exit id)) W3 hk3
          exact ⟨_, _, hr, .inr ⟨rfl, .exit id, hIx _ _ _ hkp hi3, hl4, hd4⟩⟩
        | goto t =>
          obtain ⟨hk3, hi3⟩ := hp
          obtain ⟨hr, hkp, hl4, hd4⟩ := fin (some (.goto t)) W3 hk3
          exact ⟨_, _, hr, .inr ⟨rfl, .goto t, hIx _ _ _ hkp hi3, hl4, hd4⟩⟩
        | panic c => exact hp.elim
        | outgrown => exact hp.elim
      | exit id => exact hq.elim
      | goto t => exact hq.elim
      | ret => exact hq.elim
      | panic c => exact hq.elim
      | outgrown => exact hq.elim
    · rintro e W' ⟨⟨v, rfl⟩, h⟩
      rcases h with ⟨hi, hl, hd⟩ | ⟨c, hc, hl, hd⟩
      · refine ⟨_, _, run_endLoop hl (by rw [hrc]; simp), ?_⟩
        have hkp : Keep w.heap.size W' (W'.putObj (w.heap.size + 1) (.loop { rc .ready none with state := .exhausted })) := Keep.putObj _ (by omega) hl rfl
        have hd' := (World.putObj_heap_other (w := W') (r := w.heap.size + 1) (o := .loop { rc .ready none with state := .exhausted }) (k := w.heap.size) (by omega)).trans hd
        subst hrc
        exact hdone _ _ (Nat.le_refl _) (hI _ _ _ hkp hi) hd'
      · refine ⟨_, _, run_endLoop hl (by rw [hrc]; simp), ?_⟩
        have hkp : Keep w.heap.size W' (W'.putObj (w.heap.size + 1) (.loop { rc .done (some c) with state := .exhausted })) := Keep.putObj _ (by omega) hl rfl
        have hd' := (World.putObj_heap_other (w := W') (r := w.heap.size + 1) (o := .loop { rc .done (some c) with state := .exhausted }) (k := w.heap.size) (by omega)).trans hd
        subst hrc
        exact wpIn_wide.2 (hstop _ _ _ (Nat.le_refl _) (hIx _ _ _ hkp hc) hd')
/-- The law where the assignment to the loop's variables touches no memory. -/
theorem wp_range_pure {P : Program} {g : Operand} {ps : Array Tmp} {assign body : Code} {Q : Exit → Act → World → Prop} {a : Act} {w : World}
    {gf : Nat} {lb : Array Value} (hg : a.eval g = .func (.func gf) #[] lb) (eg : ∀ args w, (callFunc gf args).run P w = .ok (.enter gf args) w)
    (N : Nat) (xs : Nat → Array Value) (hps : ∀ i, (xs i).size = ps.size)
    (I : Nat → World → Prop) (Ix : Code → World → Prop)
    (hI : ∀ i X Y, Keep w.heap.size X Y → I i X → I i Y) (hIx : ∀ c X Y, Keep w.heap.size X Y → Ix c X → Ix c Y)
    (h0 : I 0 w)
    (hround : ∀ l i W, i < N → I i W → w.heap.size < l → assign.wpIn (Fence.wide.inRound l) 0 P (Exit.then (fun a₁ W1 => W1 = W ∧ ∀ W2, l < W2.heap.size → I i W2 → body.wpIn (Fence.wide.inRound l) 0 P (rangeOut w.heap.size W2 (I (i + 1)) Ix) a₁ W2) (fun _ _ _ => False))
      { tmps := (ps.zip (xs i)).foldl (fun t (p, v) => t.setIfInBounds p v) a.tmps, defers := [] } W)
    (hiter : ∀ (l : Nat) (J : Nat → World → Prop) (Jx : World → Prop) (W : World), Below w.heap.size w W → (∀ i X Y, Below X.heap.size X Y → J i X → J i Y) → (∀ i X, J i X → I i X) → (∀ X, Jx X → ∃ c, Ix c X) →
      (∀ i X, i < N → J i X → RoundOk P l (xs i) X (J (i + 1)) Jx) → J 0 W →
      Calls P gf (#[.func (.yield l) #[] #[]] ++ lb) W fun e W' => (∃ v, e = .returned v) ∧ (J N W' ∨ Jx W'))
    (hdone : ∀ D W, w.heap.size ≤ D → I N W → W.heap[D]? = some (.deferred (some [])) → Q .normal { a with defers := { target := .collected D, args := #[] } :: a.defers } W)
    (hstop : ∀ D c W, w.heap.size ≤ D → Ix c W → W.heap[D]? = some (.deferred (some [])) → c.wp P Q { a with defers := { target := .collected D, args := #[] } :: a.defers } W) :
    (Code.rangeFunc g ps assign body).wp P Q a w := by
  refine wp_range hg eg N xs hps I Ix (fun i a' W => I i W ∧ ∀ W2 : World, w.heap.size + 1 < W2.heap.size → I i W2 → body.wpIn (Fence.wide.inRound (w.heap.size + 1)) 0 P (rangeOut w.heap.size W2 (I (i + 1)) Ix) a' W2)
    hI hIx (fun i a' X Y hk h => ⟨hI i X Y hk h.1, h.2⟩) h0 ?_ (fun i a₁ W hi hl h => h.2 W hl h.1) hiter hdone hstop
  intro i W hi h
  refine wpIn_mono (hround (w.heap.size + 1) i W hi h (by omega)) ?_
  intro e a₁ W1 hq
  cases e with
  | normal => exact ⟨by rw [hq.1]; exact KeepsFrom.refl _ _, by rw [hq.1]; exact h, hq.2⟩
  | exit id => exact hq
  | goto t => exact hq
  | ret => exact hq
  | panic c => exact hq
  | outgrown => exact hq
theorem below_putObj {B : Nat} {X W : World} (h : Below B X W) {D : Nat} (hD : B ≤ D) (o : Obj) : Below B X (W.putObj D o) :=
  h.trans ⟨rfl, rfl, rfl, by simp [World.putObj], fun k hk => World.putObj_heap_other (by omega)⟩
/-- A function that ranges over a function is entered so: its end has the loop's mark to take up. -/
theorem calls_of_marks {P : Program} {f : FuncId} {fn : Func} {c : Code} {args : Array Value} {w : World} {R : Ending → World → Prop} (hf : P.funcs[f]? = some fn) (hb : fn.body = some c)
    (h : c.wp P (bodyPostM Fence.wide 0 P fn R) { tmps := args ++ Array.replicate (fn.ntmps - args.size) undef, defers := [] } w) : Calls P f args w R :=
  callsIn_wide (n := 0) |>.1 (callsIn_of_wp_marks hf hb trivial (wpIn_wide.2 h) rfl)
theorem setCell_deferred {w : World} {D : Nat} {x : Option (List Deferred)} (h : w.heap[D]? = some (.deferred x)) (a : Addr) (v : Value) : (w.setCell a v).heap[D]? = some (.deferred x) := by
  by_cases e : a.block = D
  · simp [World.setCell, Array.getElem?_modify, e, h]
  · simp [World.setCell, Array.getElem?_modify, e, h]
theorem drew_deferred {w : World} {D : Nat} {x : Option (List Deferred)} (h : w.heap[D]? = some (.deferred x)) : w.drew.heap[D]? = some (.deferred x) := h
/-- A cell read behind what has taken the deferred calls' block. -/
theorem cell?_putDeferred {w : World} {D : Nat} {x y : Option (List Deferred)} (h : w.heap[D]? = some (.deferred x)) (a : Addr) : (w.putObj D (.deferred y)).cell? a = w.cell? a := by
  unfold World.cell?
  by_cases e : a.block = D
  · have hlt := (Array.getElem?_eq_some_iff.1 h).1
    rw [e, World.putObj_heap_same hlt, h]
  · rw [World.putObj_heap_other e]
end Go.Proofs.Ytammacofhdbgcaa
