/-
  A range over a function whose iterator keeps memory of its own between the rounds: the law of Range once more, with a bound T that the iterator chooses: what it has made below T stays as it lies. No program in sight.
-/
import Derived.Test.YtammacofhdbgcaaRange
namespace Go.Proofs.Ytammacofhdbgcaa
open Go.RowKit
set_option linter.unusedSimpArgs false
set_option linter.unusedVariables false
/-- The heap has not shrunk, and cells of blocks from B on and below T stay as they lie. -/
structure KeptTo (B T : Nat) (X Y : World) : Prop where
  size : X.heap.size ≤ Y.heap.size
  block : ∀ (k : Nat) (o : Obj), B ≤ k → k < T → X.heap[k]? = some o → o.isCells = true → Y.heap[k]? = some o
theorem KeptTo.refl (B T : Nat) (X : World) : KeptTo B T X X := ⟨Nat.le_refl _, fun _ _ _ _ h _ => h⟩
theorem KeptTo.trans {B T : Nat} {X Y Z : World} (h : KeptTo B T X Y) (k : KeptTo B T Y Z) : KeptTo B T X Z := ⟨Nat.le_trans h.size k.size, fun i o h1 h2 h3 h4 => k.block i o h1 h2 (h.block i o h1 h2 h3 h4) h4⟩
theorem KeptTo.of_keep {B B' T : Nat} {X Y : World} (h : Keep B' X Y) : KeptTo B T X Y := ⟨h.size, fun i o h1 h2 h3 h4 => h.block i o h3 (.inr h4)⟩
theorem KeptTo.of_below {B T : Nat} {X Y : World} (h : Below X.heap.size X Y) : KeptTo B T X Y := KeptTo.of_keep (Keep.of_below (B := 0) h)
theorem KeptTo.setCell {B T : Nat} (X : World) {a : Addr} (v : Value) (h : a.block < B ∨ T ≤ a.block) : KeptTo B T X (X.setCell a v) := ⟨by simp, fun i o h1 h2 h3 h4 => by
  have : i ≠ a.block := by omega
  simp [World.setCell, Array.getElem?_modify, this.symm, h3]⟩
theorem KeptTo.grown {B T : Nat} {X Y : World} {row : Option Nat} (h : X.grownBy Y row) (hr : ∀ g, row = some g → T ≤ g) : KeptTo B T X Y := ⟨h.size, fun i o h1 h2 h3 h4 => by
  rw [h.block i (Array.getElem?_eq_some_iff.1 h3).1 (fun e => by have := hr i e.symm; omega)]
  exact h3⟩
theorem KeptTo.ownsRow {B T : Nat} {X Y : World} (h : KeptTo B T X Y) {base : Nat} {e : TypeId} {size : Nat} {v : Value} {n : Nat} {xs : List Value} (ho : X.ownsRow base e size v n xs) (h1 : B ≤ base) (h2 : ∀ g, v.ownBlock = some g → g < T) : Y.ownsRow base e size v n xs := by
  obtain ⟨h3, h4⟩ := ho
  refine ⟨h3, ?_⟩
  rcases h4 with h4 | ⟨g, cap, cur, hv, hg, hh, r⟩
  · exact .inl h4
  · exact .inr ⟨g, cap, cur, hv, hg, h.block _ _ (by omega) (h2 g (by rw [hv]; rfl)) hh rfl, r⟩
/-- THE LAW. I T i: what holds when i rounds are over; Ix c: a round has left by the jump c; A i a W: behind the assignment of the i-th element. -/
theorem wp_rangeT {P : Program} {g : Operand} {ps : Array Tmp} {assign body : Code} {Q : Exit → Act → World → Prop} {a : Act} {w : World}
    {gf : Nat} {lb : Array Value} (hg : a.eval g = .func (.func gf) #[] lb) (eg : ∀ args w, (callFunc gf args).run P w = .ok (.enter gf args) w)
    (N : Nat) (xs : Nat → Array Value) (hps : ∀ i, (xs i).size = ps.size)
    (I : Nat → Nat → World → Prop) (Ix : Code → World → Prop) (A : Nat → Nat → Act → World → Prop)
    (hI : ∀ T i X Y, Keep w.heap.size X Y → I T i X → I T i Y) (hIx : ∀ c X Y, Keep w.heap.size X Y → Ix c X → Ix c Y) (hA : ∀ T i a' X Y, Keep w.heap.size X Y → A T i a' X → A T i a' Y)
    (h0 : ∀ T, I T 0 w)
    (hassign : ∀ T i W, i < N → T ≤ W.heap.size → I T i W → assign.wpIn (Fence.wide.inRound (w.heap.size + 1)) 0 P (Exit.then (fun a₁ W1 => KeepsFrom w.heap.size W W1 ∧ KeptTo w.heap.size T W W1 ∧ A T i a₁ W1) (fun _ _ _ => False))
      { tmps := (ps.zip (xs i)).foldl (fun t (p, v) => t.setIfInBounds p v) a.tmps, defers := [] } W)
    (hbody : ∀ T i a₁ W, i < N → T ≤ W.heap.size → w.heap.size + 1 < W.heap.size → A T i a₁ W → body.wpIn (Fence.wide.inRound (w.heap.size + 1)) 0 P (rangeOut w.heap.size W (fun W' => I T (i + 1) W' ∧ KeptTo w.heap.size T W W') Ix) a₁ W)
    (hiter : ∀ (l : Nat) (J : Nat → Nat → World → Prop) (Jx : World → Prop) (W : World), Below w.heap.size w W → (∀ T i X Y, Below X.heap.size X Y → J T i X → J T i Y) → (∀ T i X, J T i X → I T i X) → (∀ X, Jx X → ∃ c, Ix c X) →
      (∀ T i X, i < N → T ≤ X.heap.size → J T i X → RoundOk P l (xs i) X (fun W' => J T (i + 1) W' ∧ KeptTo w.heap.size T X W') Jx) → (∀ T, J T 0 W) →
      Calls P gf (#[.func (.yield l) #[] #[]] ++ lb) W fun e W' => (∃ v, e = .returned v) ∧ ((∃ T, J T N W') ∨ Jx W'))
    (hdone : ∀ T D W, w.heap.size ≤ D → I T N W → W.heap[D]? = some (.deferred (some [])) → Q .normal { a with defers := { target := .collected D, args := #[] } :: a.defers } W)
    (hstop : ∀ D c W, w.heap.size ≤ D → Ix c W → W.heap[D]? = some (.deferred (some [])) → c.wp P Q { a with defers := { target := .collected D, args := #[] } :: a.defers } W) :
    (Code.rangeFunc g ps assign body).wp P Q a w := by
  refine wpIn_wide (n := 0) |>.1 (wpIn_rangeFunc ?_)
  intro fn hfn
  obtain ⟨rc, hrc⟩ : ∃ rc : LoopState → Option Code → Loop, rc = fun st pe => { state := st, pending := pe, fn, tmps := a.tmps, params := ps, assign, body, defers := w.heap.size } := ⟨_, rfl⟩
  obtain ⟨W1, hW1⟩ : ∃ W1, (w.alloc (.deferred (some []))).alloc (.loop (rc .ready none)) = W1 := ⟨_, rfl⟩
  have hL1 : W1.heap[w.heap.size + 1]? = some (.loop (rc .ready none)) := by
    rw [← hW1]; have := heap_alloc_new (w.alloc (.deferred (some []))) (.loop (rc .ready none)); rwa [World.size_alloc] at this
  have hD1 : W1.heap[w.heap.size]? = some (.deferred (some [])) := by
    rw [← hW1]; exact (Below.heap_alloc _ _ _ (by simp)).trans (heap_alloc_new w _)
  have hb1 : Below w.heap.size w W1 := by
    rw [← hW1]; exact ((Below.refl _ w).alloc (Nat.le_refl _) _).alloc (by simp) _
  have hI1 : ∀ T, I T 0 W1 := fun T => hI T 0 w W1 (Keep.of_below hb1) (h0 T)
  refine ⟨w.heap.size + 1, [{ target := .collected w.heap.size, args := #[] }], W1, { target := .fn (.func gf) lb, args := #[.func (.yield (w.heap.size + 1)) #[] #[]] }, W1, gf,
    #[.func (.yield (w.heap.size + 1)) #[] #[]] ++ lb, W1, ?_, ?_, fun _ _ => trivial, ?_, fun h => by simp [Fence.wide] at h, ?_⟩
  · rw [← hW1, hrc]; exact run_enterLoop_outer _ _ _ _ _
  · simp only [resolve, hg]
    simp [go_sem]
  · simp [invoke, go_sem, eg]
  · refine callsIn_wide.2 ((hiter (w.heap.size + 1)
      (fun T i W => I T i W ∧ W.heap[w.heap.size + 1]? = some (.loop (rc .ready none)) ∧ W.heap[w.heap.size]? = some (.deferred (some [])))
      (fun W => ∃ c, Ix c W ∧ W.heap[w.heap.size + 1]? = some (.loop (rc .done (some c))) ∧ W.heap[w.heap.size]? = some (.deferred (some [])))
      W1 hb1 ?_ (fun T i X h => h.1) (fun X ⟨c, h, _⟩ => ⟨c, h⟩) ?_ (fun T => ⟨hI1 T, hL1, hD1⟩)).mono ?_)
    · rintro T i X Y hb ⟨h1, h2, h3⟩
      exact ⟨hI T i X Y (Keep.of_below hb) h1, (hb.block _ (Array.getElem?_eq_some_iff.1 h2).1).trans h2, (hb.block _ (Array.getElem?_eq_some_iff.1 h3).1).trans h3⟩
    · rintro T i W hi hT ⟨hi1, hl, hd⟩
      have hy := run_yield (P := P) (args := xs i) hl (by rw [hrc]; exact hps i)
      rw [hrc] at hy
      refine ⟨fn, _, assign, body, hy, roundIn_of_wpIn trivial (wpIn_mono (hassign T i W hi hT hi1) ?_)⟩
      clear hy
      rintro e a₁ Wa hq
      cases e with
      | normal =>
        obtain ⟨hkf, hkt, ha⟩ := hq
        have hla := hkf.same _ _ (by omega) hl rfl
        have hda := hkf.same _ _ (Nat.le_refl _) hd rfl
        have hlt : w.heap.size + 1 < Wa.heap.size := (Array.getElem?_eq_some_iff.1 hla).1
        refine ⟨_, run_beginRound hla (by rw [hrc]), ?_⟩
        obtain ⟨Wb, hWb⟩ : ∃ Wb, Wa.putObj (w.heap.size + 1) (.loop { rc .ready none with state := .busy }) = Wb := ⟨_, rfl⟩
        have hlb : Wb.heap[w.heap.size + 1]? = some (.loop { rc .ready none with state := .busy }) := by rw [← hWb]; exact World.putObj_heap_same hlt
        have hdb : Wb.heap[w.heap.size]? = some (.deferred (some [])) := by rw [← hWb]; exact (World.putObj_heap_other (by omega)).trans hda
        have hkb : Keep w.heap.size Wa Wb := by rw [← hWb]; exact Keep.putObj _ (by omega) hla rfl
        have hab : A T i a₁ Wb := hA T i a₁ Wa Wb hkb ha
        rw [hWb]
        refine wpIn_mono (hbody T i a₁ Wb hi (Nat.le_trans hT (Nat.le_trans hkf.size hkb.size)) (Array.getElem?_eq_some_iff.1 hlb).1 hab) ?_
        have fin : ∀ (jump : Option Code) (W3 : World), KeepsFrom w.heap.size Wb W3 →
            (Instr.endRound (w.heap.size + 1) jump).run P W3 = .ok (.bool jump.isNone) (W3.putObj (w.heap.size + 1) (.loop (rc (if jump.isNone then .ready else .done) jump))) ∧
            Keep w.heap.size W3 (W3.putObj (w.heap.size + 1) (.loop (rc (if jump.isNone then .ready else .done) jump))) ∧
            (W3.putObj (w.heap.size + 1) (.loop (rc (if jump.isNone then .ready else .done) jump))).heap[w.heap.size + 1]? = some (.loop (rc (if jump.isNone then .ready else .done) jump)) ∧
            (W3.putObj (w.heap.size + 1) (.loop (rc (if jump.isNone then .ready else .done) jump))).heap[w.heap.size]? = some (.deferred (some [])) := fun jump W3 hk3 => by
          have hl3 := hk3.same _ _ (by omega) hlb rfl
          have hd3 := hk3.same _ _ (Nat.le_refl _) hdb rfl
          have := run_endRound (P := P) jump hl3
          rw [hrc] at this ⊢
          exact ⟨this, Keep.putObj _ (by omega) hl3 rfl, World.putObj_heap_same (Array.getElem?_eq_some_iff.1 hl3).1, (World.putObj_heap_other (by omega)).trans hd3⟩
        rintro e a3 W3 hp
        cases e with
        | normal =>
          obtain ⟨hk3, hi3, hkt3⟩ := hp
          obtain ⟨hr, hkp, hl4, hd4⟩ := fin none W3 hk3
          exact ⟨_, _, hr, .inl ⟨rfl, ⟨hI _ _ _ _ hkp hi3, hl4, hd4⟩, hkt.trans ((KeptTo.of_keep hkb).trans (hkt3.trans (KeptTo.of_keep hkp)))⟩⟩
        | ret =>
          obtain ⟨hk3, hi3⟩ := hp
          obtain ⟨hr, hkp, hl4, hd4⟩ := fin (some .ret) W3 hk3
          exact ⟨_, _, hr, .inr ⟨rfl, .ret, hIx _ _ _ hkp hi3, hl4, hd4⟩⟩
        | exit id =>
          obtain ⟨hk3, hi3⟩ := hp
          obtain ⟨hr, hkp, hl4, hd4⟩ := fin (some (.exit id)) W3 hk3
          exact ⟨_, _, hr, .inr ⟨rfl, .exit id, hIx _ _ _ hkp hi3, hl4, hd4⟩⟩
        | goto t =>
          obtain ⟨hk3, hi3⟩ := hp
          obtain ⟨hr, hkp, hl4, hd4⟩ := fin (some (.goto t)) W3 hk3
          exact ⟨_, _, hr, .inr ⟨rfl, .goto t, hIx _ _ _ hkp hi3, hl4, hd4⟩⟩
        | panic c => exact hp.elim
        | outgrown => exact hp.elim
      | exit id => exact hq.elim
      | goto t => exact hq.elim
      | ret => exact hq.elim
      | panic c => exact hq.elim
      | outgrown => exact hq.elim
    · rintro e W' ⟨⟨v, rfl⟩, h⟩
      rcases h with ⟨T, hi, hl, hd⟩ | ⟨c, hc, hl, hd⟩
      · refine ⟨_, _, run_endLoop hl (by rw [hrc]; simp), ?_⟩
        have hkp : Keep w.heap.size W' (W'.putObj (w.heap.size + 1) (.loop { rc .ready none with state := .exhausted })) := Keep.putObj _ (by omega) hl rfl
        have hd' := (World.putObj_heap_other (w := W') (r := w.heap.size + 1) (o := .loop { rc .ready none with state := .exhausted }) (k := w.heap.size) (by omega)).trans hd
        subst hrc
        exact hdone T _ _ (Nat.le_refl _) (hI _ _ _ _ hkp hi) hd'
      · refine ⟨_, _, run_endLoop hl (by rw [hrc]; simp), ?_⟩
        have hkp : Keep w.heap.size W' (W'.putObj (w.heap.size + 1) (.loop { rc .done (some c) with state := .exhausted })) := Keep.putObj _ (by omega) hl rfl
        have hd' := (World.putObj_heap_other (w := W') (r := w.heap.size + 1) (o := .loop { rc .done (some c) with state := .exhausted }) (k := w.heap.size) (by omega)).trans hd
        subst hrc
        exact wpIn_wide.2 (hstop _ _ _ (Nat.le_refl _) (hIx _ _ _ hkp hc) hd')
/-- The law where the assignment to the loop's variables touches no memory. -/
theorem wp_rangeT_pure {P : Program} {g : Operand} {ps : Array Tmp} {assign body : Code} {Q : Exit → Act → World → Prop} {a : Act} {w : World}
    {gf : Nat} {lb : Array Value} (hg : a.eval g = .func (.func gf) #[] lb) (eg : ∀ args w, (callFunc gf args).run P w = .ok (.enter gf args) w)
    (N : Nat) (xs : Nat → Array Value) (hps : ∀ i, (xs i).size = ps.size)
    (I : Nat → Nat → World → Prop) (Ix : Code → World → Prop)
    (hI : ∀ T i X Y, Keep w.heap.size X Y → I T i X → I T i Y) (hIx : ∀ c X Y, Keep w.heap.size X Y → Ix c X → Ix c Y)
    (h0 : ∀ T, I T 0 w)
    (hround : ∀ l T i W, i < N → T ≤ W.heap.size → I T i W → w.heap.size < l → assign.wpIn (Fence.wide.inRound l) 0 P (Exit.then (fun a₁ W1 => W1 = W ∧ ∀ W2, l < W2.heap.size → T ≤ W2.heap.size → I T i W2 → body.wpIn (Fence.wide.inRound l) 0 P (rangeOut w.heap.size W2 (fun W' => I T (i + 1) W' ∧ KeptTo w.heap.size T W2 W') Ix) a₁ W2) (fun _ _ _ => False))
      { tmps := (ps.zip (xs i)).foldl (fun t (p, v) => t.setIfInBounds p v) a.tmps, defers := [] } W)
    (hiter : ∀ (l : Nat) (J : Nat → Nat → World → Prop) (Jx : World → Prop) (W : World), Below w.heap.size w W → (∀ T i X Y, Below X.heap.size X Y → J T i X → J T i Y) → (∀ T i X, J T i X → I T i X) → (∀ X, Jx X → ∃ c, Ix c X) →
      (∀ T i X, i < N → T ≤ X.heap.size → J T i X → RoundOk P l (xs i) X (fun W' => J T (i + 1) W' ∧ KeptTo w.heap.size T X W') Jx) → (∀ T, J T 0 W) →
      Calls P gf (#[.func (.yield l) #[] #[]] ++ lb) W fun e W' => (∃ v, e = .returned v) ∧ ((∃ T, J T N W') ∨ Jx W'))
    (hdone : ∀ T D W, w.heap.size ≤ D → I T N W → W.heap[D]? = some (.deferred (some [])) → Q .normal { a with defers := { target := .collected D, args := #[] } :: a.defers } W)
    (hstop : ∀ D c W, w.heap.size ≤ D → Ix c W → W.heap[D]? = some (.deferred (some [])) → c.wp P Q { a with defers := { target := .collected D, args := #[] } :: a.defers } W) :
    (Code.rangeFunc g ps assign body).wp P Q a w := by
  refine wp_rangeT hg eg N xs hps I Ix (fun T i a' W => I T i W ∧ ∀ W2 : World, w.heap.size + 1 < W2.heap.size → T ≤ W2.heap.size → I T i W2 → body.wpIn (Fence.wide.inRound (w.heap.size + 1)) 0 P (rangeOut w.heap.size W2 (fun W' => I T (i + 1) W' ∧ KeptTo w.heap.size T W2 W') Ix) a' W2)
    hI hIx (fun T i a' X Y hk h => ⟨hI T i X Y hk h.1, h.2⟩) h0 ?_ (fun T i a₁ W hi hT hl h => h.2 W hl hT h.1) hiter hdone hstop
  intro T i W hi hT h
  refine wpIn_mono (hround (w.heap.size + 1) T i W hi hT h (by omega)) ?_
  intro e a₁ W1 hq
  cases e with
  | normal => exact ⟨by rw [hq.1]; exact KeepsFrom.refl _ _, by rw [hq.1]; exact KeptTo.refl _ _ _, by rw [hq.1]; exact h, hq.2⟩
  | exit id => exact hq
  | goto t => exact hq
  | ret => exact hq
  | panic c => exact hq
  | outgrown => exact hq
end Go.Proofs.Ytammacofhdbgcaa
