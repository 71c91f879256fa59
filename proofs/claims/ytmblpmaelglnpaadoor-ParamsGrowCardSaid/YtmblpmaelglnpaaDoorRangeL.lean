/-
  A range over a function whose iterator writes captured variables and keeps memory of its own over the yield: the law of RangeK once more; L tells which blocks the iterator has made since the last round. No program in sight.
-/
import Derived.Test.YtmblpmaelglnpaaDoorGBase
namespace Go.Proofs.YtmblpmaelglnpaaDoor
open Go.RowKit
set_option linter.unusedSimpArgs false
set_option linter.unusedVariables false
theorem size_putObj' (X : World) (r : Nat) (o : Obj) : (X.putObj r o).heap.size = X.heap.size := by simp [World.putObj]
theorem Stay.mono {S S' : Nat → Prop} {X Y : World} (h : Stay S X Y) (hS : ∀ k, S' k → S k) : Stay S' X Y := fun k o hs hk => h k o (hS k hs) hk
/-- THE LAW. I i: what holds when i rounds are over; Ix c: a round has left by the jump c; A i a W: behind the assignment of the i-th element. -/
theorem wp_rangeL {P : Program} {g : Operand} {ps : Array Tmp} {assign body : Code} {Q : Exit → Act → World → Prop} {a : Act} {w : World}
    {gf : Nat} {lb : Array Value} (hg : a.eval g = .func (.func gf) #[] lb) (eg : ∀ args w, (callFunc gf args).run P w = .ok (.enter gf args) w)
    (S : Nat → Prop) (hS : ∀ k, S k → k < w.heap.size) (N : Nat) (xs : Nat → Array Value) (hps : ∀ i, (xs i).size = ps.size)
    (I : Nat → Nat → World → Prop) (Ix : Code → World → Prop) (A : Nat → Nat → Act → World → Prop)
    (hI : ∀ i L X Y, Keep w.heap.size X Y → I i L X → I i L Y) (hIS : ∀ i L X Y, But S X Y → I i L X → I i L Y) (F G : World → Prop) (hF : ∀ X Y, Keep w.heap.size X Y → F X → F Y) (hG : ∀ X Y, Keep w.heap.size X Y → G X → G Y) (hIx : ∀ c X Y, Keep w.heap.size X Y → Ix c X → Ix c Y) (hA : ∀ i L a' X Y, Keep w.heap.size X Y → A i L a' X → A i L a' Y)
    (h0 : ∀ L, w.heap.size ≤ L → I 0 L w)
    (hassign : ∀ i L W, i < N → w.heap.size + 2 ≤ L → I i L W → assign.wpIn (Fence.wide.inRound (w.heap.size + 1)) 0 P (Exit.then (fun a₁ W1 => KeepsFrom w.heap.size W W1 ∧ Stay (fun k => S k ∨ L ≤ k) W W1 ∧ A i L a₁ W1) (fun _ _ _ => False))
      { tmps := (ps.zip (xs i)).foldl (fun t (p, v) => t.setIfInBounds p v) a.tmps, defers := [] } W)
    (hbody : ∀ i L a₁ W, i < N → w.heap.size + 1 < W.heap.size → w.heap.size + 2 ≤ L → A i L a₁ W → body.wpIn (Fence.wide.inRound (w.heap.size + 1)) 0 P (rangeOut w.heap.size W (fun W' => I (i + 1) W'.heap.size W' ∧ Stay (fun k => S k ∨ L ≤ k) W W') (fun c W' => Ix c W' ∧ Stay (fun k => S k ∨ L ≤ k) W W')) a₁ W)
    (hiter : ∀ (l : Nat) (J : Nat → Nat → World → Prop) (Jx : World → Prop) (W : World), Below w.heap.size w W → (∀ i L X Y, But S X Y → J i L X → J i L Y) → (∀ i L X, J i L X → I i L X) → (∀ X, Jx X → ∃ c, Ix c X) →
      (∀ i L X, i < N → J i L X → RoundOk P l (xs i) X (fun W' => J (i + 1) W'.heap.size W' ∧ Stay (fun k => S k ∨ L ≤ k) X W') (fun W' => Jx W' ∧ Stay (fun k => S k ∨ L ≤ k) X W')) → J 0 W.heap.size W →
      Calls P gf (#[.func (.yield l) #[] #[]] ++ lb) W fun e W' => (∃ v, e = .returned v) ∧ (((∃ L, J N L W') ∧ F W') ∨ (Jx W' ∧ G W')))
    (hdone : ∀ D L W, w.heap.size ≤ D → I N L W → F W → W.heap[D]? = some (.deferred (some [])) → Q .normal { a with defers := { target := .collected D, args := #[] } :: a.defers } W)
    (hstop : ∀ D c W, w.heap.size ≤ D → Ix c W → G W → W.heap[D]? = some (.deferred (some [])) → c.wp P Q { a with defers := { target := .collected D, args := #[] } :: a.defers } W) :
    (Code.rangeFunc g ps assign body).wp P Q a w := by
  refine wpIn_wide (n := 0) |>.1 (wpIn_rangeFunc ?_)
  intro fn hfn
  obtain ⟨rc, hrc⟩ : ∃ rc : LoopState → Option Code → Loop, rc = fun st pe => { state := st, pending := pe, fn, tmps := a.tmps, params := ps, assign, body, defers := w.heap.size } := ⟨_, rfl⟩
  obtain ⟨W1, hW1⟩ : ∃ W1, (w.alloc (.deferred (some []))).alloc (.loop (rc .ready none)) = W1 := ⟨_, rfl⟩
  have hL1 : W1.heap[w.heap.size + 1]? = some (.loop (rc .ready none)) := by
    rw [← hW1]; have := heap_alloc_new (w.alloc (.deferred (some []))) (.loop (rc .ready none)); rwa [World.size_alloc] at this
  have hD1 : W1.heap[w.heap.size]? = some (.deferred (some [])) := by
    rw [← hW1]; exact (Below.heap_alloc _ _ _ (by simp)).trans (heap_alloc_new w _)
  have hb1 : Below w.heap.size w W1 := by
    rw [← hW1]; exact ((Below.refl _ w).alloc (Nat.le_refl _) _).alloc (by simp) _
  have hs1 : W1.heap.size = w.heap.size + 2 := by rw [← hW1]; simp
  have hI1 : I 0 W1.heap.size W1 := hI 0 _ w W1 (Keep.of_below hb1) (h0 _ hb1.size)
  refine ⟨w.heap.size + 1, [{ target := .collected w.heap.size, args := #[] }], W1, { target := .fn (.func gf) lb, args := #[.func (.yield (w.heap.size + 1)) #[] #[]] }, W1, gf,
    #[.func (.yield (w.heap.size + 1)) #[] #[]] ++ lb, W1, ?_, ?_, fun _ _ => trivial, ?_, fun h => by simp [Fence.wide] at h, ?_⟩
  · rw [← hW1, hrc]; exact run_enterLoop_outer _ _ _ _ _
  · simp only [resolve, hg]
    simp [go_sem]
  · simp [invoke, go_sem, eg]
  · refine callsIn_wide.2 ((hiter (w.heap.size + 1)
      (fun i L W => (I i L W ∧ w.heap.size + 2 ≤ L) ∧ W.heap[w.heap.size + 1]? = some (.loop (rc .ready none)) ∧ W.heap[w.heap.size]? = some (.deferred (some [])))
      (fun W => ∃ c, Ix c W ∧ W.heap[w.heap.size + 1]? = some (.loop (rc .done (some c))) ∧ W.heap[w.heap.size]? = some (.deferred (some [])))
      W1 hb1 ?_ (fun i L X h => h.1.1) (fun X ⟨c, h, _⟩ => ⟨c, h⟩) ?_ ⟨⟨hI1, by omega⟩, hL1, hD1⟩).mono ?_)
    · rintro i L X Y hb ⟨⟨h1, h1b⟩, h2, h3⟩
      exact ⟨⟨hIS i L X Y hb h1, h1b⟩, hb.block _ _ (fun h => by have := hS _ h; omega) h2, hb.block _ _ (fun h => by have := hS _ h; omega) h3⟩
    · rintro i L W hi ⟨⟨hi1, hL⟩, hl, hd⟩
      have hy := run_yield (P := P) (args := xs i) hl (by rw [hrc]; exact hps i)
      rw [hrc] at hy
      refine ⟨fn, _, assign, body, hy, roundIn_of_wpIn trivial (wpIn_mono (hassign i L W hi hL hi1) ?_)⟩
      clear hy
      rintro e a₁ Wa hq
      cases e with
      | normal =>
        obtain ⟨hkf, hkt, ha⟩ := hq
        have hla := hkf.same _ _ (by omega) hl rfl
        have hda := hkf.same _ _ (Nat.le_refl _) hd rfl
        have hlt : w.heap.size + 1 < Wa.heap.size := (Array.getElem?_eq_some_iff.1 hla).1
        refine ⟨_, run_beginRound hla (by rw [hrc]), ?_⟩
        obtain ⟨Wb, hWb⟩ : ∃ Wb, Wa.putObj (w.heap.size + 1) (.loop { rc .ready none with state := .busy }) = Wb := ⟨_, rfl⟩
        have hlb : Wb.heap[w.heap.size + 1]? = some (.loop { rc .ready none with state := .busy }) := by rw [← hWb]; exact World.putObj_heap_same hlt
        have hdb : Wb.heap[w.heap.size]? = some (.deferred (some [])) := by rw [← hWb]; exact (World.putObj_heap_other (by omega)).trans hda
        have hkb : Stay (fun k => S k ∨ L ≤ k) Wa Wb := by rw [← hWb]; exact Stay.putObj _ _ _ (fun h => by rcases h with h | h; (have := hS _ h; omega); omega)
        have hab : A i L a₁ Wb := hA i L a₁ Wa Wb (by rw [← hWb]; exact Keep.putObj _ (by omega) hla rfl) ha
        rw [hWb]
        refine wpIn_mono (hbody i L a₁ Wb hi (Array.getElem?_eq_some_iff.1 hlb).1 hL hab) ?_
        have fin : ∀ (jump : Option Code) (W3 : World), KeepsFrom w.heap.size Wb W3 →
            (Instr.endRound (w.heap.size + 1) jump).run P W3 = .ok (.bool jump.isNone) (W3.putObj (w.heap.size + 1) (.loop (rc (if jump.isNone then .ready else .done) jump))) ∧
            Keep w.heap.size W3 (W3.putObj (w.heap.size + 1) (.loop (rc (if jump.isNone then .ready else .done) jump))) ∧
            (W3.putObj (w.heap.size + 1) (.loop (rc (if jump.isNone then .ready else .done) jump))).heap[w.heap.size + 1]? = some (.loop (rc (if jump.isNone then .ready else .done) jump)) ∧
            (W3.putObj (w.heap.size + 1) (.loop (rc (if jump.isNone then .ready else .done) jump))).heap[w.heap.size]? = some (.deferred (some [])) := fun jump W3 hk3 => by
          have hl3 := hk3.same _ _ (by omega) hlb rfl
          have hd3 := hk3.same _ _ (Nat.le_refl _) hdb rfl
          have := run_endRound (P := P) jump hl3
          rw [hrc] at this ⊢
          exact ⟨this, Keep.putObj _ (by omega) hl3 rfl, World.putObj_heap_same (Array.getElem?_eq_some_iff.1 hl3).1, (World.putObj_heap_other (by omega)).trans hd3⟩
        rintro e a3 W3 hp
        cases e with
        | normal =>
          obtain ⟨hk3, hi3, hkt3⟩ := hp
          obtain ⟨hr, hkp, hl4, hd4⟩ := fin none W3 hk3
          have hz4 := (Array.getElem?_eq_some_iff.1 hl4).1
          exact ⟨_, _, hr, .inl ⟨rfl, ⟨⟨by rw [size_putObj']; exact hI _ _ _ _ hkp hi3, by omega⟩, hl4, hd4⟩, hkt.trans (hkb.trans (hkt3.trans (Stay.putObj _ _ _ (fun h => by rcases h with h | h; (have := hS _ h; omega); omega))))⟩⟩
        | ret =>
          obtain ⟨hk3, hi3⟩ := hp
          obtain ⟨hr, hkp, hl4, hd4⟩ := fin (some .ret) W3 hk3
          exact ⟨_, _, hr, .inr ⟨rfl, ⟨.ret, hIx _ _ _ hkp hi3.1, hl4, hd4⟩, hkt.trans (hkb.trans (hi3.2.trans (Stay.putObj _ _ _ (fun h => by rcases h with h | h; (have := hS _ h; omega); omega))))⟩⟩
        | exit id =>
          obtain ⟨hk3, hi3⟩ := hp
          obtain ⟨hr, hkp, hl4, hd4⟩ := fin (some (.exit id)) W3 hk3
          exact ⟨_, _, hr, .inr ⟨rfl, ⟨.exit id, hIx _ _ _ hkp hi3.1, hl4, hd4⟩, hkt.trans (hkb.trans (hi3.2.trans (Stay.putObj _ _ _ (fun h => by rcases h with h | h; (have := hS _ h; omega); omega))))⟩⟩
        | goto t =>
          obtain ⟨hk3, hi3⟩ := hp
          obtain ⟨hr, hkp, hl4, hd4⟩ := fin (some (.goto t)) W3 hk3
          exact ⟨_, _, hr, .inr ⟨rfl, ⟨.goto t, hIx _ _ _ hkp hi3.1, hl4, hd4⟩, hkt.trans (hkb.trans (hi3.2.trans (Stay.putObj _ _ _ (fun h => by rcases h with h | h; (have := hS _ h; omega); omega))))⟩⟩
        | panic c => exact hp.elim
        | outgrown => exact hp.elim
      | exit id => exact hq.elim
      | goto t => exact hq.elim
      | ret => exact hq.elim
      | panic c => exact hq.elim
      | outgrown => exact hq.elim
    · rintro e W' ⟨⟨v, rfl⟩, h⟩
      rcases h with ⟨⟨L, ⟨hi, _⟩, hl, hd⟩, hf⟩ | ⟨⟨c, hc, hl, hd⟩, hg⟩
      · refine ⟨_, _, run_endLoop hl (by rw [hrc]; simp), ?_⟩
        have hkp : Keep w.heap.size W' (W'.putObj (w.heap.size + 1) (.loop { rc .ready none with state := .exhausted })) := Keep.putObj _ (by omega) hl rfl
        have hd' := (World.putObj_heap_other (w := W') (r := w.heap.size + 1) (o := .loop { rc .ready none with state := .exhausted }) (k := w.heap.size) (by omega)).trans hd
        subst hrc
        exact hdone _ _ _ (Nat.le_refl _) (hI _ _ _ _ hkp hi) (hF _ _ hkp hf) hd'
      · refine ⟨_, _, run_endLoop hl (by rw [hrc]; simp), ?_⟩
        have hkp : Keep w.heap.size W' (W'.putObj (w.heap.size + 1) (.loop { rc .done (some c) with state := .exhausted })) := Keep.putObj _ (by omega) hl rfl
        have hd' := (World.putObj_heap_other (w := W') (r := w.heap.size + 1) (o := .loop { rc .done (some c) with state := .exhausted }) (k := w.heap.size) (by omega)).trans hd
        subst hrc
        exact wpIn_wide.2 (hstop _ _ _ (Nat.le_refl _) (hIx _ _ _ hkp hc) (hG _ _ hkp hg) hd')
/-- The law where the assignment to the loop's variables lays them into a box X of its own, of which Bx tells. -/
theorem wp_rangeL_box {P : Program} {g : Operand} {ps : Array Tmp} {assign body : Code} {Q : Exit → Act → World → Prop} {a : Act} {w : World}
    {gf : Nat} {lb : Array Value} (hg : a.eval g = .func (.func gf) #[] lb) (eg : ∀ args w, (callFunc gf args).run P w = .ok (.enter gf args) w)
    (S : Nat → Prop) (hS : ∀ k, S k → k < w.heap.size) (N : Nat) (xs : Nat → Array Value) (hps : ∀ i, (xs i).size = ps.size)
    (I : Nat → Nat → World → Prop) (Ix : Code → World → Prop) (Bx : Nat → Nat → World → Prop)
    (hI : ∀ i L X Y, Keep w.heap.size X Y → I i L X → I i L Y) (hIS : ∀ i L X Y, But S X Y → I i L X → I i L Y) (F G : World → Prop) (hF : ∀ X Y, Keep w.heap.size X Y → F X → F Y) (hG : ∀ X Y, Keep w.heap.size X Y → G X → G Y) (hIx : ∀ c X Y, Keep w.heap.size X Y → Ix c X → Ix c Y)
    (hBx : ∀ i b X Y, Keep w.heap.size X Y → Bx i b X → Bx i b Y)
    (h0 : ∀ L, w.heap.size ≤ L → I 0 L w)
    (hround : ∀ l i L W, i < N → w.heap.size + 2 ≤ L → I i L W → w.heap.size < l → assign.wpIn (Fence.wide.inRound l) 0 P (Exit.then (fun a₁ W1 => KeepsFrom w.heap.size W W1 ∧ Stay (fun k => S k ∨ L ≤ k) W W1 ∧ I i L W1 ∧ ∃ b, Bx i b W1 ∧ ∀ W2, l < W2.heap.size → I i L W2 → Bx i b W2 → body.wpIn (Fence.wide.inRound l) 0 P (rangeOut w.heap.size W2 (fun W' => I (i + 1) W'.heap.size W' ∧ Stay (fun k => S k ∨ L ≤ k) W2 W') (fun c W' => Ix c W' ∧ Stay (fun k => S k ∨ L ≤ k) W2 W')) a₁ W2) (fun _ _ _ => False))
      { tmps := (ps.zip (xs i)).foldl (fun t (p, v) => t.setIfInBounds p v) a.tmps, defers := [] } W)
    (hiter : ∀ (l : Nat) (J : Nat → Nat → World → Prop) (Jx : World → Prop) (W : World), Below w.heap.size w W → (∀ i L X Y, But S X Y → J i L X → J i L Y) → (∀ i L X, J i L X → I i L X) → (∀ X, Jx X → ∃ c, Ix c X) →
      (∀ i L X, i < N → J i L X → RoundOk P l (xs i) X (fun W' => J (i + 1) W'.heap.size W' ∧ Stay (fun k => S k ∨ L ≤ k) X W') (fun W' => Jx W' ∧ Stay (fun k => S k ∨ L ≤ k) X W')) → J 0 W.heap.size W →
      Calls P gf (#[.func (.yield l) #[] #[]] ++ lb) W fun e W' => (∃ v, e = .returned v) ∧ (((∃ L, J N L W') ∧ F W') ∨ (Jx W' ∧ G W')))
    (hdone : ∀ D L W, w.heap.size ≤ D → I N L W → F W → W.heap[D]? = some (.deferred (some [])) → Q .normal { a with defers := { target := .collected D, args := #[] } :: a.defers } W)
    (hstop : ∀ D c W, w.heap.size ≤ D → Ix c W → G W → W.heap[D]? = some (.deferred (some [])) → c.wp P Q { a with defers := { target := .collected D, args := #[] } :: a.defers } W) :
    (Code.rangeFunc g ps assign body).wp P Q a w := by
  refine wp_rangeL hg eg S hS N xs hps I Ix (fun i L a' W => I i L W ∧ ∃ b, Bx i b W ∧ ∀ W2 : World, w.heap.size + 1 < W2.heap.size → I i L W2 → Bx i b W2 → body.wpIn (Fence.wide.inRound (w.heap.size + 1)) 0 P (rangeOut w.heap.size W2 (fun W' => I (i + 1) W'.heap.size W' ∧ Stay (fun k => S k ∨ L ≤ k) W2 W') (fun c W' => Ix c W' ∧ Stay (fun k => S k ∨ L ≤ k) W2 W')) a' W2)
    hI hIS F G hF hG hIx (fun i L a' X Y hk ⟨h, b, h1, h2⟩ => ⟨hI i L X Y hk h, b, hBx i b X Y hk h1, h2⟩) h0 ?_ (fun i L a₁ W hi hl hL ⟨h, b, h1, h2⟩ => h2 W hl h h1) hiter hdone hstop
  intro i L W hi hL h
  refine wpIn_mono (hround (w.heap.size + 1) i L W hi hL h (by omega)) ?_
  intro e a₁ W1 hq
  cases e with
  | normal => exact ⟨hq.1, hq.2.1, hq.2.2.1, hq.2.2.2⟩
  | exit id => exact hq
  | goto t => exact hq
  | ret => exact hq
  | panic c => exact hq
  | outgrown => exact hq
end Go.Proofs.YtmblpmaelglnpaaDoor
