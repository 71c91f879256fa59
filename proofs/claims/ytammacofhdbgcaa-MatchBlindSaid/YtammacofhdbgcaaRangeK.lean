/-
  A range over a function whose iterator writes captured variables: the law of Range once more; the iterator may write the blocks of S, the rounds leave them as they lie. No program in sight.
-/
import Derived.Test.YtammacofhdbgcaaRangeT
namespace Go.Proofs.Ytammacofhdbgcaa
open Go.RowKit
set_option linter.unusedSimpArgs false
set_option linter.unusedVariables false
/-- From X to Y: what is new may be anything, the blocks of S may have turned, the others lie as they lay. -/
structure But (S : Nat → Prop) (X Y : World) : Prop where
  os : Y.os = X.os
  tape : Y.tape = X.tape
  output : Y.output = X.output
  size : X.heap.size ≤ Y.heap.size
  block : ∀ (k : Nat) (o : Obj), ¬ S k → X.heap[k]? = some o → Y.heap[k]? = some o
theorem But.refl (S : Nat → Prop) (X : World) : But S X X := ⟨rfl, rfl, rfl, Nat.le_refl _, fun _ _ _ h => h⟩
theorem But.trans {S : Nat → Prop} {X Y Z : World} (h : But S X Y) (k : But S Y Z) : But S X Z := ⟨k.os.trans h.os, k.tape.trans h.tape, k.output.trans h.output, Nat.le_trans h.size k.size, fun i o hn hi => k.block i o hn (h.block i o hn hi)⟩
theorem But.of_below {S : Nat → Prop} {X Y : World} (h : Below X.heap.size X Y) : But S X Y := ⟨h.os, h.tape, h.output, h.size, fun k o _ hk => (h.block k (Array.getElem?_eq_some_iff.1 hk).1).trans hk⟩
theorem But.setCell {S : Nat → Prop} (X : World) {a : Addr} (v : Value) (h : S a.block) : But S X (X.setCell a v) := ⟨rfl, rfl, rfl, by simp, fun k o hn hk => by
  have : a.block ≠ k := fun e => hn (e ▸ h)
  simp [World.setCell, Array.getElem?_modify, this, hk]⟩
theorem But.cell {S : Nat → Prop} {X Y : World} (h : But S X Y) {a : Addr} {v : Value} (hn : ¬ S a.block) (hc : X.cell? a = some v) : Y.cell? a = some v := by
  unfold World.cell? at hc ⊢
  cases ho : X.heap[a.block]? with
  | none => simp [ho] at hc
  | some o =>
    rw [ho] at hc
    rw [h.block _ _ hn ho]
    exact hc
theorem But.frozen {S : Nat → Prop} {X Y : World} (h : But S X Y) {a : Addr} {v : Value} (hn : ¬ S a.block) (hc : X.cell? a = some v) : Y.frozen? a = X.frozen? a := by
  unfold World.cell? at hc
  unfold World.frozen?
  cases ho : X.heap[a.block]? with
  | none => simp [ho] at hc
  | some o => rw [h.block _ _ hn ho]
theorem But.below {S : Nat → Prop} {B : Nat} {X Y Z : World} (h : But S Y Z) (hb : Below B X Y) (hS : ∀ k, k < B → ¬ S k) (hB : B ≤ Y.heap.size) : Below B X Z :=
  hb.trans ⟨h.os, h.tape, h.output, h.size, fun k hk => by
    have hlt : k < Y.heap.size := by omega
    rw [h.block k _ (hS k hk) (Array.getElem?_eq_getElem hlt), Array.getElem?_eq_getElem hlt]⟩
theorem But.ownsRow {S : Nat → Prop} {X Y : World} (h : But S X Y) {base : Nat} {e : TypeId} {size : Nat} {v : Value} {n : Nat} {xs : List Value} (ho : X.ownsRow base e size v n xs) (hS : ∀ k, base ≤ k → ¬ S k) : Y.ownsRow base e size v n xs := by
  obtain ⟨h1, h2⟩ := ho
  refine ⟨h1, ?_⟩
  rcases h2 with h2 | ⟨g, cap, cur, hv, hg, hh, r⟩
  · exact .inl h2
  · exact .inr ⟨g, cap, cur, hv, hg, h.block _ _ (hS g hg) hh, r⟩
/-- The blocks of S lie as they lay. -/
def Stay (S : Nat → Prop) (X Y : World) : Prop := ∀ (k : Nat) (o : Obj), S k → X.heap[k]? = some o → Y.heap[k]? = some o
theorem Stay.refl (S : Nat → Prop) (X : World) : Stay S X X := fun _ _ _ h => h
theorem Stay.trans {S : Nat → Prop} {X Y Z : World} (h : Stay S X Y) (k : Stay S Y Z) : Stay S X Z := fun i o hs hi => k i o hs (h i o hs hi)
theorem Stay.putObj {S : Nat → Prop} (X : World) (r : Nat) (o : Obj) (h : ¬ S r) : Stay S X (X.putObj r o) := fun i o' hs hi => (World.putObj_heap_other (w := X) (r := r) (o := o) (k := i) (by intro e; subst e; exact h hs)).trans hi
theorem Stay.setCell {S : Nat → Prop} (X : World) {a : Addr} (v : Value) (h : ¬ S a.block) : Stay S X (X.setCell a v) := fun i o' hs hi => by
  have : a.block ≠ i := fun e => h (e ▸ hs)
  simp [World.setCell, Array.getElem?_modify, this, hi]
theorem Stay.of_below {S : Nat → Prop} {X Y : World} (h : Below X.heap.size X Y) : Stay S X Y := fun k o _ hk => (h.block k (Array.getElem?_eq_some_iff.1 hk).1).trans hk
theorem Stay.of_grown {S : Nat → Prop} {X Y : World} {row : Option Nat} (h : X.grownBy Y row) (hr : ∀ g, row = some g → ¬ S g) : Stay S X Y := fun k o hs hk => by
  rw [h.block k (Array.getElem?_eq_some_iff.1 hk).1 (fun e => hr k e.symm hs)]
  exact hk
theorem Stay.cell {S : Nat → Prop} {X Y : World} (h : Stay S X Y) {a : Addr} {v : Value} (hs : S a.block) (hc : X.cell? a = some v) : Y.cell? a = some v := by
  unfold World.cell? at hc ⊢
  cases ho : X.heap[a.block]? with
  | none => simp [ho] at hc
  | some o =>
    rw [ho] at hc
    rw [h _ _ hs ho]
    exact hc
theorem Stay.frozen {S : Nat → Prop} {X Y : World} (h : Stay S X Y) {a : Addr} {v : Value} (hs : S a.block) (hc : X.cell? a = some v) : Y.frozen? a = X.frozen? a := by
  unfold World.cell? at hc
  unfold World.frozen?
  cases ho : X.heap[a.block]? with
  | none => simp [ho] at hc
  | some o => rw [h _ _ hs ho]
/-- THE LAW. I i: what holds when i rounds are over; Ix c: a round has left by the jump c; A i a W: behind the assignment of the i-th element. -/
theorem wp_rangeK {P : Program} {g : Operand} {ps : Array Tmp} {assign body : Code} {Q : Exit → Act → World → Prop} {a : Act} {w : World}
    {gf : Nat} {lb : Array Value} (hg : a.eval g = .func (.func gf) #[] lb) (eg : ∀ args w, (callFunc gf args).run P w = .ok (.enter gf args) w)
    (S : Nat → Prop) (hS : ∀ k, S k → k < w.heap.size) (N : Nat) (xs : Nat → Array Value) (hps : ∀ i, (xs i).size = ps.size)
    (I : Nat → World → Prop) (Ix : Code → World → Prop) (A : Nat → Act → World → Prop)
    (hI : ∀ i X Y, Keep w.heap.size X Y → I i X → I i Y) (hIS : ∀ i X Y, But S X Y → I i X → I i Y) (F G : World → Prop) (hF : ∀ X Y, Keep w.heap.size X Y → F X → F Y) (hG : ∀ X Y, Keep w.heap.size X Y → G X → G Y) (hIx : ∀ c X Y, Keep w.heap.size X Y → Ix c X → Ix c Y) (hA : ∀ i a' X Y, Keep w.heap.size X Y → A i a' X → A i a' Y)
    (h0 : I 0 w)
    (hassign : ∀ i W, i < N → I i W → assign.wpIn (Fence.wide.inRound (w.heap.size + 1)) 0 P (Exit.then (fun a₁ W1 => KeepsFrom w.heap.size W W1 ∧ Stay S W W1 ∧ A i a₁ W1) (fun _ _ _ => False))
      { tmps := (ps.zip (xs i)).foldl (fun t (p, v) => t.setIfInBounds p v) a.tmps, defers := [] } W)
    (hbody : ∀ i a₁ W, i < N → w.heap.size + 1 < W.heap.size → A i a₁ W → body.wpIn (Fence.wide.inRound (w.heap.size + 1)) 0 P (rangeOut w.heap.size W (fun W' => I (i + 1) W' ∧ Stay S W W') (fun c W' => Ix c W' ∧ Stay S W W')) a₁ W)
    (hiter : ∀ (l : Nat) (J : Nat → World → Prop) (Jx : World → Prop) (W : World), Below w.heap.size w W → (∀ i X Y, But S X Y → J i X → J i Y) → (∀ i X, J i X → I i X) → (∀ X, Jx X → ∃ c, Ix c X) →
      (∀ i X, i < N → J i X → RoundOk P l (xs i) X (fun W' => J (i + 1) W' ∧ Stay S X W') (fun W' => Jx W' ∧ Stay S X W')) → J 0 W →
      Calls P gf (#[.func (.yield l) #[] #[]] ++ lb) W fun e W' => (∃ v, e = .returned v) ∧ ((J N W' ∧ F W') ∨ (Jx W' ∧ G W')))
    (hdone : ∀ D W, w.heap.size ≤ D → I N W → F W → W.heap[D]? = some (.deferred (some [])) → Q .normal { a with defers := { target := .collected D, args := #[] } :: a.defers } W)
    (hstop : ∀ D c W, w.heap.size ≤ D → Ix c W → G W → W.heap[D]? = some (.deferred (some [])) → c.wp P Q { a with defers := { target := .collected D, args := #[] } :: a.defers } W) :
    (Code.rangeFunc g ps assign body).wp P Q a w := by
  refine wpIn_wide (n := 0) |>.1 (wpIn_rangeFunc ?_)
  intro fn hfn
  obtain ⟨rc, hrc⟩ : ∃ rc : LoopState → Option Code → Loop, rc = fun st pe => { state := st, pending := pe, fn, tmps := a.tmps, params := ps, assign, body, defers := w.heap.size } := ⟨_, rfl⟩
  obtain ⟨W1, hW1⟩ : ∃ W1, (w.alloc (.deferred (some []))).alloc (.loop (rc .ready none)) = W1 := ⟨_, rfl⟩
  have hL1 : W1.heap[w.heap.size + 1]? = some (.loop (rc .ready none)) := by
    rw [← hW1]; have := heap_alloc_new (w.alloc (.deferred (some []))) (.loop (rc .ready none)); rwa [World.size_alloc] at this
  have hD1 : W1.heap[w.heap.size]? = some (.deferred (some [])) := by
    rw [← hW1]; exact (Below.heap_alloc _ _ _ (by simp)).trans (heap_alloc_new w _)
  have hb1 : Below w.heap.size w W1 := by
    rw [← hW1]; exact ((Below.refl _ w).alloc (Nat.le_refl _) _).alloc (by simp) _
  have hI1 : I 0 W1 := hI 0 w W1 (Keep.of_below hb1) h0
  refine ⟨w.heap.size + 1, [{ target := .collected w.heap.size, args := #[] }], W1, { target := .fn (.func gf) lb, args := #[.func (.yield (w.heap.size + 1)) #[] #[]] }, W1, gf,
    #[.func (.yield (w.heap.size + 1)) #[] #[]] ++ lb, W1, ?_, ?_, fun _ _ => trivial, ?_, fun h => by simp [Fence.wide] at h, ?_⟩
  · rw [← hW1, hrc]; exact run_enterLoop_outer _ _ _ _ _
  · simp only [resolve, hg]
    simp [go_sem]
  · simp [invoke, go_sem, eg]
  · refine callsIn_wide.2 ((hiter (w.heap.size + 1)
      (fun i W => I i W ∧ W.heap[w.heap.size + 1]? = some (.loop (rc .ready none)) ∧ W.heap[w.heap.size]? = some (.deferred (some [])))
      (fun W => ∃ c, Ix c W ∧ W.heap[w.heap.size + 1]? = some (.loop (rc .done (some c))) ∧ W.heap[w.heap.size]? = some (.deferred (some [])))
      W1 hb1 ?_ (fun i X h => h.1) (fun X ⟨c, h, _⟩ => ⟨c, h⟩) ?_ ⟨hI1, hL1, hD1⟩).mono ?_)
    · rintro i X Y hb ⟨h1, h2, h3⟩
      exact ⟨hIS i X Y hb h1, hb.block _ _ (fun h => by have := hS _ h; omega) h2, hb.block _ _ (fun h => by have := hS _ h; omega) h3⟩
    · rintro i W hi ⟨hi1, hl, hd⟩
      have hy := run_yield (P := P) (args := xs i) hl (by rw [hrc]; exact hps i)
      rw [hrc] at hy
      refine ⟨fn, _, assign, body, hy, roundIn_of_wpIn trivial (wpIn_mono (hassign i W hi hi1) ?_)⟩
      clear hy
      rintro e a₁ Wa hq
      cases e with
      | normal =>
        obtain ⟨hkf, hkt, ha⟩ := hq
        have hla := hkf.same _ _ (by omega) hl rfl
        have hda := hkf.same _ _ (Nat.le_refl _) hd rfl
        have hlt : w.heap.size + 1 < Wa.heap.size := (Array.getElem?_eq_some_iff.1 hla).1
        refine ⟨_, run_beginRound hla (by rw [hrc]), ?_⟩
        obtain ⟨Wb, hWb⟩ : ∃ Wb, Wa.putObj (w.heap.size + 1) (.loop { rc .ready none with state := .busy }) = Wb := ⟨_, rfl⟩
        have hlb : Wb.heap[w.heap.size + 1]? = some (.loop { rc .ready none with state := .busy }) := by rw [← hWb]; exact World.putObj_heap_same hlt
        have hdb : Wb.heap[w.heap.size]? = some (.deferred (some [])) := by rw [← hWb]; exact (World.putObj_heap_other (by omega)).trans hda
        have hkb : Stay S Wa Wb := by rw [← hWb]; exact Stay.putObj _ _ _ (fun h => by have := hS _ h; omega)
        have hab : A i a₁ Wb := hA i a₁ Wa Wb (by rw [← hWb]; exact Keep.putObj _ (by omega) hla rfl) ha
        rw [hWb]
        refine wpIn_mono (hbody i a₁ Wb hi (Array.getElem?_eq_some_iff.1 hlb).1 hab) ?_
        have fin : ∀ (jump : Option Code) (W3 : World), KeepsFrom w.heap.size Wb W3 →
            (Instr.endRound (w.heap.size + 1) jump).run P W3 = .ok (.bool jump.isNone) (W3.putObj (w.heap.size + 1) (.loop (rc (if jump.isNone then .ready else .done) jump))) ∧
            Keep w.heap.size W3 (W3.putObj (w.heap.size + 1) (.loop (rc (if jump.isNone then .ready else .done) jump))) ∧
            (W3.putObj (w.heap.size + 1) (.loop (rc (if jump.isNone then .ready else .done) jump))).heap[w.heap.size + 1]? = some (.loop (rc (if jump.isNone then .ready else .done) jump)) ∧
            (W3.putObj (w.heap.size + 1) (.loop (rc (if jump.isNone then .ready else .done) jump))).heap[w.heap.size]? = some (.deferred (some [])) := fun jump W3 hk3 => by
          have hl3 := hk3.same _ _ (by omega) hlb rfl
          have hd3 := hk3.same _ _ (Nat.le_refl _) hdb rfl
          have := run_endRound (P := P) jump hl3
          rw [hrc] at this ⊢
          exact ⟨this, Keep.putObj _ (by omega) hl3 rfl, World.putObj_heap_same (Array.getElem?_eq_some_iff.1 hl3).1, (World.putObj_heap_other (by omega)).trans hd3⟩
        rintro e a3 W3 hp
        cases e with
        | normal =>
          obtain ⟨hk3, hi3, hkt3⟩ := hp
          obtain ⟨hr, hkp, hl4, hd4⟩ := fin none W3 hk3
          exact ⟨_, _, hr, .inl ⟨rfl, ⟨hI _ _ _ hkp hi3, hl4, hd4⟩, hkt.trans (hkb.trans (hkt3.trans (Stay.putObj _ _ _ (fun h => by have := hS _ h; omega))))⟩⟩
        | ret =>
          obtain ⟨hk3, hi3⟩ := hp
          obtain ⟨hr, hkp, hl4, hd4⟩ := fin (some .ret) W3 hk3
          exact ⟨_, _, hr, .inr ⟨rfl, ⟨.ret, hIx _ _ _ hkp hi3.1, hl4, hd4⟩, hkt.trans (hkb.trans (hi3.2.trans (Stay.putObj _ _ _ (fun h => by have := hS _ h; omega))))⟩⟩
        | exit id =>
          obtain ⟨hk3, hi3⟩ := hp
          obtain ⟨hr, hkp, hl4, hd4⟩ := fin (some (.exit id)) W3 hk3
          exact ⟨_, _, hr, .inr ⟨rfl, ⟨.exit id, hIx _ _ _ hkp hi3.1, hl4, hd4⟩, hkt.trans (hkb.trans (hi3.2.trans (Stay.putObj _ _ _ (fun h => by have := hS _ h; omega))))⟩⟩
        | goto t =>
          obtain ⟨hk3, hi3⟩ := hp
          obtain ⟨hr, hkp, hl4, hd4⟩ := fin (some (.goto t)) W3 hk3
          exact ⟨_, _, hr, .inr ⟨rfl, ⟨.goto t, hIx _ _ _ hkp hi3.1, hl4, hd4⟩, hkt.trans (hkb.trans (hi3.2.trans (Stay.putObj _ _ _ (fun h => by have := hS _ h; omega))))⟩⟩
        | panic c => exact hp.elim
        | outgrown => exact hp.elim
      | exit id => exact hq.elim
      | goto t => exact hq.elim
      | ret => exact hq.elim
      | panic c => exact hq.elim
      | outgrown => exact hq.elim
    · rintro e W' ⟨⟨v, rfl⟩, h⟩
      rcases h with ⟨⟨hi, hl, hd⟩, hf⟩ | ⟨⟨c, hc, hl, hd⟩, hg⟩
      · refine ⟨_, _, run_endLoop hl (by rw [hrc]; simp), ?_⟩
        have hkp : Keep w.heap.size W' (W'.putObj (w.heap.size + 1) (.loop { rc .ready none with state := .exhausted })) := Keep.putObj _ (by omega) hl rfl
        have hd' := (World.putObj_heap_other (w := W') (r := w.heap.size + 1) (o := .loop { rc .ready none with state := .exhausted }) (k := w.heap.size) (by omega)).trans hd
        subst hrc
        exact hdone _ _ (Nat.le_refl _) (hI _ _ _ hkp hi) (hF _ _ hkp hf) hd'
      · refine ⟨_, _, run_endLoop hl (by rw [hrc]; simp), ?_⟩
        have hkp : Keep w.heap.size W' (W'.putObj (w.heap.size + 1) (.loop { rc .done (some c) with state := .exhausted })) := Keep.putObj _ (by omega) hl rfl
        have hd' := (World.putObj_heap_other (w := W') (r := w.heap.size + 1) (o := .loop { rc .done (some c) with state := .exhausted }) (k := w.heap.size) (by omega)).trans hd
        subst hrc
        exact wpIn_wide.2 (hstop _ _ _ (Nat.le_refl _) (hIx _ _ _ hkp hc) (hG _ _ hkp hg) hd')
/-- The law where the assignment to the loop's variables touches no memory. -/
theorem wp_rangeK_pure {P : Program} {g : Operand} {ps : Array Tmp} {assign body : Code} {Q : Exit → Act → World → Prop} {a : Act} {w : World}
    {gf : Nat} {lb : Array Value} (hg : a.eval g = .func (.func gf) #[] lb) (eg : ∀ args w, (callFunc gf args).run P w = .ok (.enter gf args) w)
    (S : Nat → Prop) (hS : ∀ k, S k → k < w.heap.size) (N : Nat) (xs : Nat → Array Value) (hps : ∀ i, (xs i).size = ps.size)
    (I : Nat → World → Prop) (Ix : Code → World → Prop)
    (hI : ∀ i X Y, Keep w.heap.size X Y → I i X → I i Y) (hIS : ∀ i X Y, But S X Y → I i X → I i Y) (F G : World → Prop) (hF : ∀ X Y, Keep w.heap.size X Y → F X → F Y) (hG : ∀ X Y, Keep w.heap.size X Y → G X → G Y) (hIx : ∀ c X Y, Keep w.heap.size X Y → Ix c X → Ix c Y)
    (h0 : I 0 w)
    (hround : ∀ l i W, i < N → I i W → w.heap.size < l → assign.wpIn (Fence.wide.inRound l) 0 P (Exit.then (fun a₁ W1 => W1 = W ∧ ∀ W2, l < W2.heap.size → I i W2 → body.wpIn (Fence.wide.inRound l) 0 P (rangeOut w.heap.size W2 (fun W' => I (i + 1) W' ∧ Stay S W2 W') (fun c W' => Ix c W' ∧ Stay S W2 W')) a₁ W2) (fun _ _ _ => False))
      { tmps := (ps.zip (xs i)).foldl (fun t (p, v) => t.setIfInBounds p v) a.tmps, defers := [] } W)
    (hiter : ∀ (l : Nat) (J : Nat → World → Prop) (Jx : World → Prop) (W : World), Below w.heap.size w W → (∀ i X Y, But S X Y → J i X → J i Y) → (∀ i X, J i X → I i X) → (∀ X, Jx X → ∃ c, Ix c X) →
      (∀ i X, i < N → J i X → RoundOk P l (xs i) X (fun W' => J (i + 1) W' ∧ Stay S X W') (fun W' => Jx W' ∧ Stay S X W')) → J 0 W →
      Calls P gf (#[.func (.yield l) #[] #[]] ++ lb) W fun e W' => (∃ v, e = .returned v) ∧ ((J N W' ∧ F W') ∨ (Jx W' ∧ G W')))
    (hdone : ∀ D W, w.heap.size ≤ D → I N W → F W → W.heap[D]? = some (.deferred (some [])) → Q .normal { a with defers := { target := .collected D, args := #[] } :: a.defers } W)
    (hstop : ∀ D c W, w.heap.size ≤ D → Ix c W → G W → W.heap[D]? = some (.deferred (some [])) → c.wp P Q { a with defers := { target := .collected D, args := #[] } :: a.defers } W) :
    (Code.rangeFunc g ps assign body).wp P Q a w := by
  refine wp_rangeK hg eg S hS N xs hps I Ix (fun i a' W => I i W ∧ ∀ W2 : World, w.heap.size + 1 < W2.heap.size → I i W2 → body.wpIn (Fence.wide.inRound (w.heap.size + 1)) 0 P (rangeOut w.heap.size W2 (fun W' => I (i + 1) W' ∧ Stay S W2 W') (fun c W' => Ix c W' ∧ Stay S W2 W')) a' W2)
    hI hIS F G hF hG hIx (fun i a' X Y hk h => ⟨hI i X Y hk h.1, h.2⟩) h0 ?_ (fun i a₁ W hi hl h => h.2 W hl h.1) hiter hdone hstop
  intro i W hi h
  refine wpIn_mono (hround (w.heap.size + 1) i W hi h (by omega)) ?_
  intro e a₁ W1 hq
  cases e with
  | normal => exact ⟨by rw [hq.1]; exact KeepsFrom.refl _ _, by rw [hq.1]; exact Stay.refl _ _, by rw [hq.1]; exact h, hq.2⟩
  | exit id => exact hq
  | goto t => exact hq
  | ret => exact hq
  | panic c => exact hq
  | outgrown => exact hq
/-- The law where the assignment to the loop's variables lays them into a box X of its own, of which Bx tells. -/
theorem wp_rangeK_box {P : Program} {g : Operand} {ps : Array Tmp} {assign body : Code} {Q : Exit → Act → World → Prop} {a : Act} {w : World}
    {gf : Nat} {lb : Array Value} (hg : a.eval g = .func (.func gf) #[] lb) (eg : ∀ args w, (callFunc gf args).run P w = .ok (.enter gf args) w)
    (S : Nat → Prop) (hS : ∀ k, S k → k < w.heap.size) (N : Nat) (xs : Nat → Array Value) (hps : ∀ i, (xs i).size = ps.size)
    (I : Nat → World → Prop) (Ix : Code → World → Prop) (Bx : Nat → Nat → World → Prop)
    (hI : ∀ i X Y, Keep w.heap.size X Y → I i X → I i Y) (hIS : ∀ i X Y, But S X Y → I i X → I i Y) (F G : World → Prop) (hF : ∀ X Y, Keep w.heap.size X Y → F X → F Y) (hG : ∀ X Y, Keep w.heap.size X Y → G X → G Y) (hIx : ∀ c X Y, Keep w.heap.size X Y → Ix c X → Ix c Y)
    (hBx : ∀ i b X Y, Keep w.heap.size X Y → Bx i b X → Bx i b Y)
    (h0 : I 0 w)
    (hround : ∀ l i W, i < N → I i W → w.heap.size < l → assign.wpIn (Fence.wide.inRound l) 0 P (Exit.then (fun a₁ W1 => KeepsFrom w.heap.size W W1 ∧ Stay S W W1 ∧ I i W1 ∧ ∃ b, Bx i b W1 ∧ ∀ W2, l < W2.heap.size → I i W2 → Bx i b W2 → body.wpIn (Fence.wide.inRound l) 0 P (rangeOut w.heap.size W2 (fun W' => I (i + 1) W' ∧ Stay S W2 W') (fun c W' => Ix c W' ∧ Stay S W2 W')) a₁ W2) (fun _ _ _ => False))
      { tmps := (ps.zip (xs i)).foldl (fun t (p, v) => t.setIfInBounds p v) a.tmps, defers := [] } W)
    (hiter : ∀ (l : Nat) (J : Nat → World → Prop) (Jx : World → Prop) (W : World), Below w.heap.size w W → (∀ i X Y, But S X Y → J i X → J i Y) → (∀ i X, J i X → I i X) → (∀ X, Jx X → ∃ c, Ix c X) →
      (∀ i X, i < N → J i X → RoundOk P l (xs i) X (fun W' => J (i + 1) W' ∧ Stay S X W') (fun W' => Jx W' ∧ Stay S X W')) → J 0 W →
      Calls P gf (#[.func (.yield l) #[] #[]] ++ lb) W fun e W' => (∃ v, e = .returned v) ∧ ((J N W' ∧ F W') ∨ (Jx W' ∧ G W')))
    (hdone : ∀ D W, w.heap.size ≤ D → I N W → F W → W.heap[D]? = some (.deferred (some [])) → Q .normal { a with defers := { target := .collected D, args := #[] } :: a.defers } W)
    (hstop : ∀ D c W, w.heap.size ≤ D → Ix c W → G W → W.heap[D]? = some (.deferred (some [])) → c.wp P Q { a with defers := { target := .collected D, args := #[] } :: a.defers } W) :
    (Code.rangeFunc g ps assign body).wp P Q a w := by
  refine wp_rangeK hg eg S hS N xs hps I Ix (fun i a' W => I i W ∧ ∃ b, Bx i b W ∧ ∀ W2 : World, w.heap.size + 1 < W2.heap.size → I i W2 → Bx i b W2 → body.wpIn (Fence.wide.inRound (w.heap.size + 1)) 0 P (rangeOut w.heap.size W2 (fun W' => I (i + 1) W' ∧ Stay S W2 W') (fun c W' => Ix c W' ∧ Stay S W2 W')) a' W2)
    hI hIS F G hF hG hIx (fun i a' X Y hk ⟨h, b, h1, h2⟩ => ⟨hI i X Y hk h, b, hBx i b X Y hk h1, h2⟩) h0 ?_ (fun i a₁ W hi hl ⟨h, b, h1, h2⟩ => h2 W hl h h1) hiter hdone hstop
  intro i W hi h
  refine wpIn_mono (hround (w.heap.size + 1) i W hi h (by omega)) ?_
  intro e a₁ W1 hq
  cases e with
  | normal => exact ⟨hq.1, hq.2.1, hq.2.2.1, hq.2.2.2⟩
  | exit id => exact hq
  | goto t => exact hq
  | ret => exact hq
  | panic c => exact hq
  | outgrown => exact hq
end Go.Proofs.Ytammacofhdbgcaa
