/-
  What the loops of the reference's depths keep: plain facts of forests, and of where symbols lie.
-/
import Derived.Test.YtmfgkimbehkdeaaHufFirst
import Derived.Test.YtmfgkimbehkdeaaHufRef
namespace Go.Proofs.Ytmfgkimbehkdeaa
open Go.RowKit
set_option linter.unusedSimpArgs false
set_option linter.unusedVariables false
theorem leaves_syms_nodup : ∀ (l : List Nat) (s : Nat), (((leaves s l).flatMap lf).map Prod.fst).Nodup := by
  intro l
  induction l with
  | nil => intro s; simp [leaves]
  | cons c l ih =>
    intro s
    unfold leaves
    split
    · rw [List.flatMap_cons, List.map_append]
      show ([s] ++ _).Nodup
      rw [List.singleton_append, List.nodup_cons]
      refine ⟨fun h => ?_, ih (s + 1)⟩
      obtain ⟨⟨k, c'⟩, hm, e⟩ := List.mem_map.1 h
      dsimp only at e
      have := ((leaves_lf_mem l (s + 1) k c').1 hm).2.1
      omega
    · exact ih (s + 1)
theorem aged_of {x : HT} (h : AgedT x) : Aged x := by
  cases x with
  | leaf c s => exact fun h => by cases h
  | join c g a b => exact fun _ => h.1
theorem incL_snoc : ∀ (l out : List Nat) (s : Nat), incL (l ++ [s]) out = (incL l out).set s ((incL l out).getD s 0 + 1) := by
  intro l
  induction l with
  | nil => intro out s; rfl
  | cons a l ih => intro out s; exact ih _ s
theorem incL_le {l out : List Nat} {m : Nat} (hn : l.Nodup) (hm : ∀ d ∈ out, d ≤ m) : ∀ d ∈ incL l out, d ≤ m + 1 := by
  intro d hd
  obtain ⟨i, hi⟩ := List.mem_iff_getElem?.1 hd
  rw [incL_at l out hn i] at hi
  split at hi
  · obtain ⟨e, he, rfl⟩ := Option.map_eq_some_iff.1 hi
    have := hm e (List.mem_of_getElem? he)
    omega
  · have := hm d (List.mem_of_getElem? hi)
    omega
theorem syms_join (c g : Nat) (x y : HT) : (HT.join c g x y).syms = x.syms ++ y.syms := by simp [HT.syms, lf]
/-- What holds between two rounds, with no memory in sight. -/
structure Mid (ns : List Nat) (k : Nat) (F : List HT) (out : List Nat) : Prop where
  hk : k + 1 ≤ (leaves 0 ns).length
  perm : F.Perm (huff k 1 (leaves 0 ns))
  isout : OutIs ns.length F out
  low : ∀ d ∈ out, d ≤ k
theorem Mid.start {ns : List Nat} (h : 1 ≤ (leaves 0 ns).length) : Mid ns 0 (leaves 0 ns) (List.replicate ns.length 0) :=
  ⟨h, List.Perm.refl _, out_start ns, fun d hd => by simp at hd; omega⟩
theorem Mid.len {ns : List Nat} {k : Nat} {F : List HT} {out : List Nat} (h : Mid ns k F out) : F.length + k = (leaves 0 ns).length := by
  rw [h.perm.length_eq]
  exact huff_length k 1 (leaves 0 ns) (by omega) (leaves_told ns 0) h.hk
theorem Mid.nodup {ns : List Nat} {k : Nat} {F : List HT} {out : List Nat} (h : Mid ns k F out) : ((F.flatMap lf).map Prod.fst).Nodup := by
  have p := (h.perm.flatMap_right lf).trans (huff_lf k 1 (leaves 0 ns) (by omega) (leaves_told ns 0) h.hk)
  exact (p.map Prod.fst).nodup_iff.2 (leaves_syms_nodup ns 0)
theorem Mid.sym {ns : List Nat} {k : Nat} {F : List HT} {out : List Nat} (h : Mid ns k F out) {x : HT} (hx : x ∈ F) {s : Nat} (hs : s ∈ x.syms) : s < ns.length := by
  have p := (h.perm.flatMap_right lf).trans (huff_lf k 1 (leaves 0 ns) (by omega) (leaves_told ns 0) h.hk)
  obtain ⟨⟨s', c⟩, hq, e⟩ := List.mem_map.1 hs
  dsimp only at e
  subst e
  have hm : (s', c) ∈ (leaves 0 ns).flatMap lf := p.mem_iff.1 (List.mem_flatMap.2 ⟨x, hx, hq⟩)
  have := ((leaves_lf_mem ns 0 s' c).1 hm).2.2
  have := (List.getElem?_eq_some_iff.1 this).1
  omega
theorem Mid.aged {ns : List Nat} {k : Nat} {F : List HT} {out : List Nat} (h : Mid ns k F out) {x : HT} (hx : x ∈ F) : Aged x :=
  aged_of (huff_aged k 1 (leaves 0 ns) (by omega) (leaves_told ns 0) h.hk (leaves_aged ns) x (h.perm.mem_iff.1 hx))
/-- A round. -/
theorem Mid.next {ns : List Nat} {k : Nat} {F : List HT} {out : List Nat} (h : Mid ns k F out) {x y : HT} {q r : List HT} (h1 : (x :: q).Perm F) (h2 : (y :: r).Perm q) (m1 : ∀ z ∈ q, ¬ klt z x) (m2 : ∀ z ∈ r, ¬ klt z y) :
    Mid ns (k + 1) (r ++ [.join (x.cnt + y.cnt) (k + 1) x y]) (incL (x.syms ++ y.syms) out) ∧ x.cnt + y.cnt ≤ ns.sum ∧ (x.syms ++ y.syms).Nodup ∧ (x.syms ++ y.syms).length ≤ ns.length ∧ ∀ s ∈ x.syms ++ y.syms, s < ns.length := by
  have hxy : (x :: y :: r).Perm F := (h2.cons x).trans h1
  have hl := h.len
  have hk : k + 2 ≤ (leaves 0 ns).length := by
    have := hxy.length_eq
    simp at this
    omega
  have hp2 : ((F.map (fun t => ((0 : Nat), t))).map Prod.snd).Perm (huff k 1 (leaves 0 ns)) := by
    rw [List.map_map]
    have e : (Prod.snd ∘ fun t : HT => ((0 : Nat), t)) = id := rfl
    rw [e, List.map_id]
    exact h.perm
  have p1 : (((0 : Nat), x) :: q.map (fun t => ((0 : Nat), t))).Perm (F.map (fun t => ((0 : Nat), t))) := h1.map (fun t => ((0 : Nat), t))
  have p2 : (((0 : Nat), y) :: r.map (fun t => ((0 : Nat), t))).Perm (q.map (fun t => ((0 : Nat), t))) := h2.map (fun t => ((0 : Nat), t))
  have hj := pick_two (leaves_told ns 0) hk hp2 p1 p2 (fun z hz => by
    obtain ⟨t, ht, rfl⟩ := List.mem_map.1 hz
    exact m1 t ht) (fun z hz => by
    obtain ⟨t, ht, rfl⟩ := List.mem_map.1 hz
    exact m2 t ht)
  dsimp only at hj
  have e : (r.map (fun t => ((0 : Nat), t))).map Prod.snd = r := by
    rw [List.map_map]
    have e : (Prod.snd ∘ fun t : HT => ((0 : Nat), t)) = id := rfl
    rw [e, List.map_id]
  rw [e] at hj
  have hsum := pair_sum h.hk hp2 p1 p2
  dsimp only at hsum
  have hnd := (((hxy.flatMap_right lf).map Prod.fst).nodup_iff).2 h.nodup
  have hnd2 : (x.syms ++ y.syms).Nodup := by
    simp only [List.flatMap_cons, List.map_append] at hnd
    rw [← List.append_assoc] at hnd
    exact (List.nodup_append.1 hnd).1
  have hsl : ∀ s ∈ x.syms ++ y.syms, s < ns.length := by
    intro s hs
    rcases List.mem_append.1 hs with hs | hs
    · exact h.sym (hxy.mem_iff.1 (by simp)) hs
    · exact h.sym (hxy.mem_iff.1 (by simp)) hs
  have hle : (x.syms ++ y.syms).length ≤ ns.length := by
    have p := (hxy.flatMap_right lf).trans ((h.perm.flatMap_right lf).trans (huff_lf k 1 (leaves 0 ns) (by omega) (leaves_told ns 0) h.hk))
    have h4 := p.length_eq
    have h5 : ((leaves 0 ns).flatMap lf).length = (leaves 0 ns).length := by
      have := congrArg List.length (leaves_cnt ns 0)
      simpa using this
    have h6 := leaves_le ns 0
    rw [h5] at h4
    simp only [List.flatMap_cons, List.length_append] at h4
    simp only [HT.syms, List.length_append, List.length_map]
    omega
  exact ⟨⟨hk, (List.perm_append_singleton _ _).trans hj, (out_merge (h.isout.perm hxy.symm) hnd).perm (List.perm_append_singleton _ _).symm, incL_le hnd2 h.low⟩, hsum, hnd2, hle, hsl⟩
/-- The end. -/
theorem Mid.done {ns : List Nat} {k : Nat} {F : List HT} {out : List Nat} (h : Mid ns k F out) (h1 : F.length ≤ 1) : out = depthsL ns := by
  have hl := h.len
  have hk := h.hk
  have e : k = (leaves 0 ns).length - 1 := by omega
  obtain ⟨t, ht, _⟩ := huff_one ns (by omega)
  have hp := h.perm
  rw [e, ht] at hp
  have hF := List.perm_singleton.1 hp
  have ho := h.isout
  rw [hF] at ho
  exact out_end (by omega) ht ho
/-- The symbols of a node lie in a block of integers from B on. -/
def SymAt (B : Nat) (w : World) (x : RN) : Prop := ∃ g cur, x.p = some ⟨g, 0, none⟩ ∧ B ≤ g ∧ w.heap[g]? = some (.cells cur 3 (0, 0)) ∧ cur.toList.take x.t.syms.length = (ints x.t.syms).map (Value.int .i64)
/-- Blocks of integers from B on stay. -/
def KeepI (B : Nat) (w w' : World) : Prop := ∀ (g : Nat) cur, B ≤ g → w.heap[g]? = some (.cells cur 3 (0, 0)) → w'.heap[g]? = some (.cells cur 3 (0, 0))
theorem KeepI.trans {B : Nat} {a b c : World} (h : KeepI B a b) (k : KeepI B b c) : KeepI B a c := fun g cur hg hh => k g cur hg (h g cur hg hh)
theorem KeepI.below {B : Nat} {w w' : World} (h : Below w.heap.size w w') : KeepI B w w' := fun g cur hg hh => by
  rw [h.block g (Array.getElem?_eq_some_iff.1 hh).1]
  exact hh
theorem KeepI.grown {B base s n : Nat} {w w' : World} {v : Value} {xs : List Value} (hown : w.ownsRow base 56 s v n xs) (hg : w.grownBy w' v.ownBlock) : KeepI B w w' := fun g cur hB hh => by
  have hlt := (Array.getElem?_eq_some_iff.1 hh).1
  rw [hg.block g hlt ?_]
  · exact hh
  · intro e
    rcases hown.2 with ⟨rfl, _⟩ | ⟨g', cap', cur', rfl, hb, hh', _⟩
    · simp [Value.ownBlock] at e
    · simp [Value.ownBlock] at e
      subst e
      rw [hh] at hh'
      simp at hh'
theorem KeepI.set {B : Nat} (w : World) {p : Addr} (hp : p.block < B) (u : Value) : KeepI B w (w.setCell p u) := fun g cur hB hh => by
  rw [Below.heap_setCell w p u g (by omega)]
  exact hh
theorem SymAt.keep {B : Nat} {w w' : World} {x : RN} (h : SymAt B w x) (hk : KeepI B w w') : SymAt B w' x := by
  obtain ⟨g, cur, h1, h2, h3, h4⟩ := h
  exact ⟨g, cur, h1, h2, hk g cur h2 h3, h4⟩
theorem SymAt.vals {B : Nat} {w : World} {x : RN} (h : SymAt B w x) : RowV w x.p ((ints x.t.syms).map (Value.int .i64)) := by
  obtain ⟨g, cur, h1, h2, h3, h4⟩ := h
  refine .inr ⟨_, h1, fun j u hj => ?_⟩
  rw [add4, Nat.zero_add]
  rw [← h4, List.getElem?_take] at hj
  split at hj
  · simp [World.cell?, h3]
    simpa using hj
  · cases hj
theorem SymAt.cell {B : Nat} {w : World} {x : RN} (h : SymAt B w x) : ∃ g, x.p = some ⟨g, 0, none⟩ ∧ B ≤ g ∧ g < w.heap.size ∧ ∀ (i s : Nat), x.t.syms[i]? = some s → w.cell? ⟨g, i, none⟩ = some (.int .i64 (s : Int)) := by
  obtain ⟨g, cur, h1, h2, h3, h4⟩ := h
  refine ⟨g, h1, h2, (Array.getElem?_eq_some_iff.1 h3).1, fun i s hi => ?_⟩
  have hj : ((ints x.t.syms).map (Value.int .i64))[i]? = some (.int .i64 (s : Int)) := by simp [ints, hi]
  rw [← h4, List.getElem?_take] at hj
  split at hj
  · simp [World.cell?, h3]
    simpa using hj
  · cases hj
theorem SymAt.of_own {B b0 : Nat} {w : World} {x : RN} {n c : Nat} (h : w.ownsRow b0 3 1 (.slice x.p n c) n ((ints x.t.syms).map (Value.int .i64))) (hne : Value.slice x.p n c ≠ .slice none 0 0) (hB : B ≤ b0) : SymAt B w x := by
  have hl := h.1
  rcases h.2 with ⟨h, _⟩ | ⟨g', cap', cur, hv, hb, hh, hc, hm, hs, ht⟩
  · exact absurd h hne
  · simp only [Value.slice.injEq] at hv
    refine ⟨g', cur, hv.1, by omega, hh, ?_⟩
    rw [← ht]
    have e : n * 1 = x.t.syms.length := by
      simp [ints] at hl
      omega
    rw [e]
theorem SymAt.leaf (w : World) {B c k : Nat} (h : B ≤ w.heap.size) : SymAt B (w.alloc (.cells #[.int .i64 (k : Int)] 3)) ⟨.leaf c k, some ⟨w.heap.size, 0, none⟩, 1⟩ :=
  ⟨w.heap.size, #[.int .i64 (k : Int)], rfl, h, heap_alloc_new _ _, rfl⟩
end Go.Proofs.Ytmfgkimbehkdeaa
