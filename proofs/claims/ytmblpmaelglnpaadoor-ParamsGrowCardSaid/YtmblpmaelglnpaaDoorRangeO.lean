/-
  A range over a function whose iterator may write whatever it has made itself, and captured variables: what the rounds keep is told of the older blocks alone. No program in sight.
-/
import Derived.Test.YtmblpmaelglnpaaDoorRangeL
namespace Go.Proofs.YtmblpmaelglnpaaDoor
open Go.RowKit
set_option linter.unusedSimpArgs false
set_option linter.unusedVariables false
/-- Nothing has changed below B but what is in S. -/
structure OldBut (S : Nat → Prop) (B : Nat) (X Y : World) : Prop where
  os : Y.os = X.os
  tape : Y.tape = X.tape
  output : Y.output = X.output
  size : X.heap.size ≤ Y.heap.size
  block : ∀ (k : Nat) (o : Obj), k < B → ¬ S k → X.heap[k]? = some o → Y.heap[k]? = some o
theorem OldBut.refl (S : Nat → Prop) (B : Nat) (X : World) : OldBut S B X X := ⟨rfl, rfl, rfl, Nat.le_refl _, fun _ _ _ _ h => h⟩
theorem OldBut.trans {S : Nat → Prop} {B : Nat} {X Y Z : World} (h : OldBut S B X Y) (k : OldBut S B Y Z) : OldBut S B X Z := ⟨k.os.trans h.os, k.tape.trans h.tape, k.output.trans h.output, Nat.le_trans h.size k.size, fun i o hb hn hi => k.block i o hb hn (h.block i o hb hn hi)⟩
theorem OldBut.of_below {S : Nat → Prop} {B C : Nat} {X Y : World} (h : Below C X Y) (hc : B ≤ C) (hx : C ≤ X.heap.size) : OldBut S B X Y := ⟨h.os, h.tape, h.output, h.size, fun k o hb _ hk => (h.block k (by omega)).trans hk⟩
theorem OldBut.putObj {S : Nat → Prop} {B : Nat} (X : World) {r : Nat} (o' : Obj) (h : B ≤ r) : OldBut S B X (X.putObj r o') := ⟨rfl, rfl, rfl, by simp [World.putObj], fun k o hb _ hk => (World.putObj_heap_other (by omega)).trans hk⟩
theorem OldBut.setCell {S : Nat → Prop} {B : Nat} (X : World) {a : Addr} (v : Value) (h : B ≤ a.block ∨ S a.block) : OldBut S B X (X.setCell a v) := ⟨rfl, rfl, rfl, by simp, fun k o hb hn hk => by
  have : a.block ≠ k := fun e => by rcases h with h | h; omega; exact hn (e ▸ h)
  simp [World.setCell, Array.getElem?_modify, this, hk]⟩
theorem OldBut.mono {S S' : Nat → Prop} {B B' : Nat} {X Y : World} (h : OldBut S B X Y) (hB : B' ≤ B) (hS : ∀ k, k < B' → S k → S' k) : OldBut S' B' X Y := ⟨h.os, h.tape, h.output, h.size, fun k o hb hn hk => h.block k o (by omega) (fun hs => hn (hS k hb hs)) hk⟩
theorem OldBut.cell {S : Nat → Prop} {B : Nat} {X Y : World} (h : OldBut S B X Y) {a : Addr} {v : Value} (hb : a.block < B) (hn : ¬ S a.block) (hc : X.cell? a = some v) : Y.cell? a = some v := by
  unfold World.cell? at hc ⊢
  cases ho : X.heap[a.block]? with
  | none => simp [ho] at hc
  | some o =>
    rw [ho] at hc
    rw [h.block _ _ hb hn ho]
    exact hc
theorem OldBut.frozen {S : Nat → Prop} {B : Nat} {X Y : World} (h : OldBut S B X Y) {a : Addr} {v : Value} (hb : a.block < B) (hn : ¬ S a.block) (hc : X.cell? a = some v) : Y.frozen? a = X.frozen? a := by
  unfold World.cell? at hc
  unfold World.frozen?
  cases ho : X.heap[a.block]? with
  | none => simp [ho] at hc
  | some o => rw [h.block _ _ hb hn ho]
theorem OldBut.below {S : Nat → Prop} {B C : Nat} {X Y Z : World} (h : OldBut S B Y Z) (hb : Below C X Y) (hC : C ≤ B) (hS : ∀ k, k < C → ¬ S k) (hY : C ≤ Y.heap.size) : Below C X Z :=
  hb.trans ⟨h.os, h.tape, h.output, h.size, fun k hk => by
    have hlt : k < Y.heap.size := by omega
    rw [h.block k _ (by omega) (hS k hk) (Array.getElem?_eq_getElem hlt), Array.getElem?_eq_getElem hlt]⟩
theorem Stay.keepsFrom {T : Nat → Prop} {B : Nat} {X Y : World} (h : Stay T X Y) (hz : X.heap.size ≤ Y.heap.size) (hT : ∀ k, B ≤ k → T k) : KeepsFrom B X Y := ⟨hz, fun k o hb hk _ => h k o (hT k hb) hk⟩
/-- THE LAW. I i: what holds when i rounds are over; Ix c: a round has left by the jump c; A i a W: behind the assignment of the i-th element. -/
theorem wp_rangeO {P : Program} {g : Operand} {ps : Array Tmp} {assign body : Code} {Q : Exit → Act → World → Prop} {a : Act} {w : World}
    {gf : Nat} {lb : Array Value} (hg : a.eval g = .func (.func gf) #[] lb) (eg : ∀ args w, (callFunc gf args).run P w = .ok (.enter gf args) w)
    (S : Nat → Prop) (hS : ∀ k, S k → k < w.heap.size) (N : Nat) (xs : Nat → Array Value) (hps : ∀ i, (xs i).size = ps.size)
    (I : Nat → World → Prop) (Ix : Code → World → Prop) (A : Nat → Act → World → Prop)
    (hI : ∀ i X Y, OldBut S w.heap.size X Y → I i X → I i Y) (hIx : ∀ c X Y, OldBut S w.heap.size X Y → Ix c X → Ix c Y) (hA : ∀ i a' X Y, OldBut S w.heap.size X Y → A i a' X → A i a' Y)
    (h0 : I 0 w)
    (hassign : ∀ i W, i < N → I i W → assign.wpIn (Fence.wide.inRound (w.heap.size + 1)) 0 P (Exit.then (fun a₁ W1 => KeepsFrom w.heap.size W W1 ∧ Stay (fun k => S k ∨ w.heap.size + 2 ≤ k) W W1 ∧ A i a₁ W1) (fun _ _ _ => False))
      { tmps := (ps.zip (xs i)).foldl (fun t (p, v) => t.setIfInBounds p v) a.tmps, defers := [] } W)
    (hbody : ∀ i a₁ W, i < N → w.heap.size + 1 < W.heap.size → A i a₁ W → body.wpIn (Fence.wide.inRound (w.heap.size + 1)) 0 P (rangeOut w.heap.size W (fun W' => I (i + 1) W' ∧ Stay (fun k => S k ∨ w.heap.size + 2 ≤ k) W W') (fun c W' => Ix c W' ∧ Stay (fun k => S k ∨ w.heap.size + 2 ≤ k) W W')) a₁ W)
    (hiter : ∀ (l : Nat) (J : Nat → World → Prop) (Jx : World → Prop) (W : World), Below w.heap.size w W → W.heap.size = w.heap.size + 2 → (∀ i X Y, OldBut S W.heap.size X Y → J i X → J i Y) → (∀ X Y, OldBut S W.heap.size X Y → Jx X → Jx Y) → (∀ i X, J i X → I i X) → (∀ X, Jx X → ∃ c, Ix c X) →
      (∀ i X, i < N → J i X → RoundOk P l (xs i) X (fun W' => J (i + 1) W' ∧ Stay (fun k => S k ∨ W.heap.size ≤ k) X W') (fun W' => Jx W' ∧ Stay (fun k => S k ∨ W.heap.size ≤ k) X W')) → J 0 W →
      Calls P gf (#[.func (.yield l) #[] #[]] ++ lb) W fun e W' => (∃ v, e = .returned v) ∧ (J N W' ∨ Jx W'))
    (hdone : ∀ D W, w.heap.size ≤ D → I N W → W.heap[D]? = some (.deferred (some [])) → Q .normal { a with defers := { target := .collected D, args := #[] } :: a.defers } W)
    (hstop : ∀ D c W, w.heap.size ≤ D → Ix c W → W.heap[D]? = some (.deferred (some [])) → c.wp P Q { a with defers := { target := .collected D, args := #[] } :: a.defers } W) :
    (Code.rangeFunc g ps assign body).wp P Q a w := by
  refine wpIn_wide (n := 0) |>.1 (wpIn_rangeFunc ?_)
  intro fn hfn
  obtain ⟨rc, hrc⟩ : ∃ rc : LoopState → Option Code → Loop, rc = fun st pe => { state := st, pending := pe, fn, tmps := a.tmps, params := ps, assign, body, defers := w.heap.size } := ⟨_, rfl⟩
  obtain ⟨W1, hW1⟩ : ∃ W1, (w.alloc (.deferred (some []))).alloc (.loop (rc .ready none)) = W1 := ⟨_, rfl⟩
  have hL1 : W1.heap[w.heap.size + 1]? = some (.loop (rc .ready none)) := by
    rw [← hW1]; have := heap_alloc_new (w.alloc (.deferred (some []))) (.loop (rc .ready none)); rwa [World.size_alloc] at this
  have hD1 : W1.heap[w.heap.size]? = some (.deferred (some [])) := by
    rw [← hW1]; exact (Below.heap_alloc _ _ _ (by simp)).trans (heap_alloc_new w _)
  have hb1 : Below w.heap.size w W1 := by
    rw [← hW1]; exact ((Below.refl _ w).alloc (Nat.le_refl _) _).alloc (by simp) _
  have hs1 : W1.heap.size = w.heap.size + 2 := by rw [← hW1]; simp
  have hI1 : I 0 W1 := hI 0 w W1 (OldBut.of_below hb1 (Nat.le_refl _) (Nat.le_refl _)) h0
  refine ⟨w.heap.size + 1, [{ target := .collected w.heap.size, args := #[] }], W1, { target := .fn (.func gf) lb, args := #[.func (.yield (w.heap.size + 1)) #[] #[]] }, W1, gf,
    #[.func (.yield (w.heap.size + 1)) #[] #[]] ++ lb, W1, ?_, ?_, fun _ _ => trivial, ?_, fun h => by simp [Fence.wide] at h, ?_⟩
  · rw [← hW1, hrc]; exact run_enterLoop_outer _ _ _ _ _
  · simp only [resolve, hg]
    simp [go_sem]
  · simp [invoke, go_sem, eg]
  · refine callsIn_wide.2 ((hiter (w.heap.size + 1)
      (fun i W => I i W ∧ W.heap[w.heap.size + 1]? = some (.loop (rc .ready none)) ∧ W.heap[w.heap.size]? = some (.deferred (some [])))
      (fun W => ∃ c, Ix c W ∧ W.heap[w.heap.size + 1]? = some (.loop (rc .done (some c))) ∧ W.heap[w.heap.size]? = some (.deferred (some [])))
      W1 hb1 hs1 ?_ ?_ (fun i X h => h.1) (fun X ⟨c, h, _⟩ => ⟨c, h⟩) ?_ ⟨hI1, hL1, hD1⟩).mono ?_)
    · rintro i X Y hb ⟨h1, h2, h3⟩
      exact ⟨hI i X Y (hb.mono (by omega) (fun _ _ h => h)) h1, hb.block _ _ (by omega) (fun h => by have := hS _ h; omega) h2, hb.block _ _ (by omega) (fun h => by have := hS _ h; omega) h3⟩
    · rintro X Y hb ⟨c, h1, h2, h3⟩
      exact ⟨c, hIx c X Y (hb.mono (by omega) (fun _ _ h => h)) h1, hb.block _ _ (by omega) (fun h => by have := hS _ h; omega) h2, hb.block _ _ (by omega) (fun h => by have := hS _ h; omega) h3⟩
    · rw [hs1]
      rintro i W hi ⟨hi1, hl, hd⟩
      have hy := run_yield (P := P) (args := xs i) hl (by rw [hrc]; exact hps i)
      rw [hrc] at hy
      refine ⟨fn, _, assign, body, hy, roundIn_of_wpIn trivial (wpIn_mono (hassign i W hi hi1) ?_)⟩
      clear hy
      rintro e a₁ Wa hq
      cases e with
      | normal =>
        obtain ⟨hkf, hkt, ha⟩ := hq
        have hla := hkf.same _ _ (by omega) hl rfl
        have hda := hkf.same _ _ (Nat.le_refl _) hd rfl
        have hlt : w.heap.size + 1 < Wa.heap.size := (Array.getElem?_eq_some_iff.1 hla).1
        refine ⟨_, run_beginRound hla (by rw [hrc]), ?_⟩
        obtain ⟨Wb, hWb⟩ : ∃ Wb, Wa.putObj (w.heap.size + 1) (.loop { rc .ready none with state := .busy }) = Wb := ⟨_, rfl⟩
        have hlb : Wb.heap[w.heap.size + 1]? = some (.loop { rc .ready none with state := .busy }) := by rw [← hWb]; exact World.putObj_heap_same hlt
        have hdb : Wb.heap[w.heap.size]? = some (.deferred (some [])) := by rw [← hWb]; exact (World.putObj_heap_other (by omega)).trans hda
        have hkb : Stay (fun k => S k ∨ w.heap.size + 2 ≤ k) Wa Wb := by rw [← hWb]; exact Stay.putObj _ _ _ (fun h => by rcases h with h | h; (have := hS _ h; omega); omega)
        have hab : A i a₁ Wb := hA i a₁ Wa Wb (by rw [← hWb]; exact OldBut.putObj _ _ (by omega)) ha
        rw [hWb]
        refine wpIn_mono (hbody i a₁ Wb hi (Array.getElem?_eq_some_iff.1 hlb).1 hab) ?_
        have fin : ∀ (jump : Option Code) (W3 : World), KeepsFrom w.heap.size Wb W3 →
            (Instr.endRound (w.heap.size + 1) jump).run P W3 = .ok (.bool jump.isNone) (W3.putObj (w.heap.size + 1) (.loop (rc (if jump.isNone then .ready else .done) jump))) ∧
            OldBut S w.heap.size W3 (W3.putObj (w.heap.size + 1) (.loop (rc (if jump.isNone then .ready else .done) jump))) ∧
            (W3.putObj (w.heap.size + 1) (.loop (rc (if jump.isNone then .ready else .done) jump))).heap[w.heap.size + 1]? = some (.loop (rc (if jump.isNone then .ready else .done) jump)) ∧
            (W3.putObj (w.heap.size + 1) (.loop (rc (if jump.isNone then .ready else .done) jump))).heap[w.heap.size]? = some (.deferred (some [])) := fun jump W3 hk3 => by
          have hl3 := hk3.same _ _ (by omega) hlb rfl
          have hd3 := hk3.same _ _ (Nat.le_refl _) hdb rfl
          have := run_endRound (P := P) jump hl3
          rw [hrc] at this ⊢
          exact ⟨this, OldBut.putObj _ _ (by omega), World.putObj_heap_same (Array.getElem?_eq_some_iff.1 hl3).1, (World.putObj_heap_other (by omega)).trans hd3⟩
        rintro e a3 W3 hp
        cases e with
        | normal =>
          obtain ⟨hk3, hi3, hkt3⟩ := hp
          obtain ⟨hr, hkp, hl4, hd4⟩ := fin none W3 hk3
          exact ⟨_, _, hr, .inl ⟨rfl, ⟨hI _ _ _ hkp hi3, hl4, hd4⟩, hkt.trans (hkb.trans (hkt3.trans (Stay.putObj _ _ _ (fun h => by rcases h with h | h; (have := hS _ h; omega); omega))))⟩⟩
        | ret =>
          obtain ⟨hk3, hi3⟩ := hp
          obtain ⟨hr, hkp, hl4, hd4⟩ := fin (some .ret) W3 hk3
          exact ⟨_, _, hr, .inr ⟨rfl, ⟨.ret, hIx _ _ _ hkp hi3.1, hl4, hd4⟩, hkt.trans (hkb.trans (hi3.2.trans (Stay.putObj _ _ _ (fun h => by rcases h with h | h; (have := hS _ h; omega); omega))))⟩⟩
        | exit id =>
          obtain ⟨hk3, hi3⟩ := hp
          obtain ⟨hr, hkp, hl4, hd4⟩ := fin (some (.exit id)) W3 hk3
          exact ⟨_, _, hr, .inr ⟨rfl, ⟨.exit id, hIx _ _ _ hkp hi3.1, hl4, hd4⟩, hkt.trans (hkb.trans (hi3.2.trans (Stay.putObj _ _ _ (fun h => by rcases h with h | h; (have := hS _ h; omega); omega))))⟩⟩
        | goto t =>
          obtain ⟨hk3, hi3⟩ := hp
          obtain ⟨hr, hkp, hl4, hd4⟩ := fin (some (.goto t)) W3 hk3
          exact ⟨_, _, hr, .inr ⟨rfl, ⟨.goto t, hIx _ _ _ hkp hi3.1, hl4, hd4⟩, hkt.trans (hkb.trans (hi3.2.trans (Stay.putObj _ _ _ (fun h => by rcases h with h | h; (have := hS _ h; omega); omega))))⟩⟩
        | panic c => exact hp.elim
        | outgrown => exact hp.elim
      | exit id => exact hq.elim
      | goto t => exact hq.elim
      | ret => exact hq.elim
      | panic c => exact hq.elim
      | outgrown => exact hq.elim
    · rintro e W' ⟨⟨v, rfl⟩, h⟩
      rcases h with ⟨hi, hl, hd⟩ | ⟨c, hc, hl, hd⟩
      · refine ⟨_, _, run_endLoop hl (by rw [hrc]; simp), ?_⟩
        have hkp : OldBut S w.heap.size W' (W'.putObj (w.heap.size + 1) (.loop { rc .ready none with state := .exhausted })) := OldBut.putObj _ _ (by omega)
        have hd' := (World.putObj_heap_other (w := W') (r := w.heap.size + 1) (o := .loop { rc .ready none with state := .exhausted }) (k := w.heap.size) (by omega)).trans hd
        subst hrc
        exact hdone _ _ (Nat.le_refl _) (hI _ _ _ hkp hi) hd'
      · refine ⟨_, _, run_endLoop hl (by rw [hrc]; simp), ?_⟩
        have hkp : OldBut S w.heap.size W' (W'.putObj (w.heap.size + 1) (.loop { rc .done (some c) with state := .exhausted })) := OldBut.putObj _ _ (by omega)
        have hd' := (World.putObj_heap_other (w := W') (r := w.heap.size + 1) (o := .loop { rc .done (some c) with state := .exhausted }) (k := w.heap.size) (by omega)).trans hd
        subst hrc
        exact wpIn_wide.2 (hstop _ _ _ (Nat.le_refl _) (hIx _ _ _ hkp hc) hd')
/-- The law where the assignment to the loop's variables leaves the world alone. -/
theorem wp_rangeO_pure {P : Program} {g : Operand} {ps : Array Tmp} {assign body : Code} {Q : Exit → Act → World → Prop} {a : Act} {w : World}
    {gf : Nat} {lb : Array Value} (hg : a.eval g = .func (.func gf) #[] lb) (eg : ∀ args w, (callFunc gf args).run P w = .ok (.enter gf args) w)
    (S : Nat → Prop) (hS : ∀ k, S k → k < w.heap.size) (N : Nat) (xs : Nat → Array Value) (hps : ∀ i, (xs i).size = ps.size)
    (I : Nat → World → Prop) (Ix : Code → World → Prop)
    (hI : ∀ i X Y, OldBut S w.heap.size X Y → I i X → I i Y) (hIx : ∀ c X Y, OldBut S w.heap.size X Y → Ix c X → Ix c Y)
    (h0 : I 0 w)
    (hround : ∀ l i W, i < N → I i W → w.heap.size < l → assign.wpIn (Fence.wide.inRound l) 0 P (Exit.then (fun a₁ W1 => W1 = W ∧ ∀ W2, l < W2.heap.size → I i W2 → body.wpIn (Fence.wide.inRound l) 0 P (rangeOut w.heap.size W2 (fun W' => I (i + 1) W' ∧ Stay (fun k => S k ∨ w.heap.size + 2 ≤ k) W2 W') (fun c W' => Ix c W' ∧ Stay (fun k => S k ∨ w.heap.size + 2 ≤ k) W2 W')) a₁ W2) (fun _ _ _ => False))
      { tmps := (ps.zip (xs i)).foldl (fun t (p, v) => t.setIfInBounds p v) a.tmps, defers := [] } W)
    (hiter : ∀ (l : Nat) (J : Nat → World → Prop) (Jx : World → Prop) (W : World), Below w.heap.size w W → W.heap.size = w.heap.size + 2 → (∀ i X Y, OldBut S W.heap.size X Y → J i X → J i Y) → (∀ X Y, OldBut S W.heap.size X Y → Jx X → Jx Y) → (∀ i X, J i X → I i X) → (∀ X, Jx X → ∃ c, Ix c X) →
      (∀ i X, i < N → J i X → RoundOk P l (xs i) X (fun W' => J (i + 1) W' ∧ Stay (fun k => S k ∨ W.heap.size ≤ k) X W') (fun W' => Jx W' ∧ Stay (fun k => S k ∨ W.heap.size ≤ k) X W')) → J 0 W →
      Calls P gf (#[.func (.yield l) #[] #[]] ++ lb) W fun e W' => (∃ v, e = .returned v) ∧ (J N W' ∨ Jx W'))
    (hdone : ∀ D W, w.heap.size ≤ D → I N W → W.heap[D]? = some (.deferred (some [])) → Q .normal { a with defers := { target := .collected D, args := #[] } :: a.defers } W)
    (hstop : ∀ D c W, w.heap.size ≤ D → Ix c W → W.heap[D]? = some (.deferred (some [])) → c.wp P Q { a with defers := { target := .collected D, args := #[] } :: a.defers } W) :
    (Code.rangeFunc g ps assign body).wp P Q a w := by
  refine wp_rangeO hg eg S hS N xs hps I Ix (fun i a' W => I i W ∧ ∀ W2 : World, w.heap.size + 1 < W2.heap.size → I i W2 → body.wpIn (Fence.wide.inRound (w.heap.size + 1)) 0 P (rangeOut w.heap.size W2 (fun W' => I (i + 1) W' ∧ Stay (fun k => S k ∨ w.heap.size + 2 ≤ k) W2 W') (fun c W' => Ix c W' ∧ Stay (fun k => S k ∨ w.heap.size + 2 ≤ k) W2 W')) a' W2)
    hI hIx (fun i a' X Y hk ⟨h, h2⟩ => ⟨hI i X Y hk h, h2⟩) h0 ?_ (fun i a₁ W hi hl ⟨h, h2⟩ => h2 W hl h) hiter hdone hstop
  intro i W hi h
  refine wpIn_mono (hround (w.heap.size + 1) i W hi h (by omega)) ?_
  intro e a₁ W1 hq
  cases e with
  | normal => obtain ⟨rfl, h2⟩ := hq; exact ⟨KeepsFrom.refl _ _, Stay.refl _ _, h, h2⟩
  | exit id => exact hq
  | goto t => exact hq
  | ret => exact hq
  | panic c => exact hq
  | outgrown => exact hq
end Go.Proofs.YtmblpmaelglnpaaDoor
