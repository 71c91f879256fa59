/-
  A map from four bytes to the places that hold them, as the call fills it: what it holds, and what an entry, a store and a look-up do. No walk.
-/
import Derived.Test.YtammacofhdbgcaaWindowPlain
import Derived.WideKeyArr
import Derived.WideKeyEntry
import Derived.Maps.Keyed
import Derived.Maps.AppendAt
import Derived.Maps.OwnOps
namespace Go.Proofs.Ytammacofhdbgcaa
open Go.RowKit Go.MapKept Go.Maps Go.WideMaps
open Go.ChangeMaps (setBlock heap_setBlock_same heap_setBlock_other modify_eq_set)
open Go.WideElems (findIdx_born findIdx_arr modify_last set_self)
set_option linter.unusedSimpArgs false
set_option linter.unusedVariables false
theorem arr4 : ArrKey Try.prog 138 5 4 := ⟨Try.underlying138, by kernel_rfl, by kernel_rfl, by kernel_rfl⟩
theorem keyed4 : Keyed Try.prog 138 := Keyed.of_law arr4.law
theorem zero4 (u : World) : (zeroValue 37).run Try.prog u = .ok (.slice none 0 0) u := by kernel_rfl
/-- The key of a place. -/
def key4 (s : ByteArray) (q : Nat) : Value := .agg (b4 s q).toArray
theorem key4_iff (s : ByteArray) (q p : Nat) : key4 s q = key4 s p ↔ fours s q = fours s p := by
  unfold key4 b4 fours
  simp [Int.natCast_inj]
theorem keyOf4 {a b c d : Int} (wa : (Lit.int .u8 a).wf = true) (wb : (Lit.int .u8 b).wf = true) (wc : (Lit.int .u8 c).wf = true) (wd : (Lit.int .u8 d).wf = true) :
    keyOf Try.prog 138 (.agg #[.int .u8 a, .int .u8 b, .int .u8 c, .int .u8 d]) = some (.string (keyBytes [.int .u8 a, .int .u8 b, .int .u8 c, .int .u8 d])) := by
  have A := arr4
  have he : Try.prog.underlying 5 = some (.int .u8) := Try.underlying5
  have hsz : ∃ m, Try.prog.types.size = m + 1 := ⟨Try.prog.types.size - 1, by decide +kernel⟩
  have hkt := A.keyType hsz
  obtain ⟨m, hm⟩ := hsz
  unfold keyOf
  simp only [A.hu]
  rw [if_pos (by simp [hkt, Value.formed, A.hu, A.size]), hm]
  unfold Program.keyLits
  simp only [A.hu, Value.cells]
  rw [if_pos (by rw [A.size]; rfl), show List.range 4 = [0, 1, 2, 3] from rfl, List.mapM_cons, List.mapM_cons, List.mapM_cons, List.mapM_cons, List.mapM_nil]
  simp [A.one, Program.keyLits, he, wa, wb, wc, wd]
theorem wf_byt (s : ByteArray) (i : Nat) : (Lit.int .u8 (byt s i : Nat)).wf = true := by
  have := byt_lt s i
  simp [Lit.wf, IntKind.min, IntKind.max, IntKind.signed, IntKind.bits]
  omega
theorem keyOf_key4 (s : ByteArray) (q : Nat) : ∃ l, keyOf Try.prog 138 (key4 s q) = some l := ⟨_, keyOf4 (wf_byt s _) (wf_byt s _) (wf_byt s _) (wf_byt s _)⟩
theorem plc_congr {s : ByteArray} {q p : Nat} (h : fours s q = fours s p) (a n : Nat) : plc s q a n = plc s p a n := by unfold plc; rw [h]
/-- Places as the program holds them. -/
def nats (l : List Nat) : List Int := l.map fun (n : Nat) => (n : Int)
def pvals (l : List Nat) : List Value := (nats l).map (Value.int .i64)
/-- An entry of the map. -/
def EntOk (w : World) (base : Nat) (s : ByteArray) (a n : Nat) (e : Go.MapEntry) : Prop :=
  ∃ q, e.key = key4 s q ∧ plc s q a n ≠ [] ∧ w.ownsRow base 3 1 e.val (plc s q a n).length (pvals (plc s q a n))
/-- Block B is the map of the places from a on, n of them. -/
def Grp (w : World) (base B : Nat) (s : ByteArray) (a n : Nat) : Prop :=
  ∃ es clock, w.heap[B]? = some (.map es clock) ∧ Stamped es clock ∧ B < base ∧ (∀ e ∈ es.toList, EntOk w base s a n e) ∧ (∀ q, (∀ e ∈ es.toList, e.key ≠ key4 s q) → plc s q a n = []) ∧
    (∀ x ∈ es.toList, ∀ y ∈ es.toList, x.key ≠ y.key → x.val.ownBlock ≠ y.val.ownBlock)
/-- The same, but that the entry at a place's key, which has this stamp, is open. -/
def Hole (w : World) (base B : Nat) (s : ByteArray) (a n q : Nat) (v : Value) (st : Nat) : Prop :=
  ∃ es clock, w.heap[B]? = some (.map es clock) ∧ Stamped es clock ∧ B < base ∧ (∃ (j : Nat) (e0 : Go.MapEntry), es.toList[j]? = some e0 ∧ e0.key = key4 s q ∧ e0.born = st) ∧
    (∀ e ∈ es.toList, e.key ≠ key4 s q → EntOk w base s a n e ∧ e.val.ownBlock ≠ v.ownBlock) ∧ (∀ q', (∀ e ∈ es.toList, e.key ≠ key4 s q') → plc s q' a n = []) ∧
    (∀ x ∈ es.toList, ∀ y ∈ es.toList, x.key ≠ key4 s q → y.key ≠ key4 s q → x.key ≠ y.key → x.val.ownBlock ≠ y.val.ownBlock)
theorem own_some {w : World} {base : Nat} {e : TypeId} {v : Value} {n : Nat} {xs : List Value} (h : w.ownsRow base e 1 v n xs) (hn : xs ≠ []) : ∃ g, v.ownBlock = some g ∧ base ≤ g ∧ g < w.heap.size := by
  obtain ⟨hl, h⟩ := h
  rcases h with ⟨rfl, rfl⟩ | ⟨g, cap, cur, rfl, hg, hh, _⟩
  · exact absurd (List.length_eq_zero_iff.1 (by simpa using hl)) hn
  · exact ⟨g, rfl, hg, (Array.getElem?_eq_some_iff.1 hh).1⟩
theorem own_base {w : World} {base : Nat} {e : TypeId} {v : Value} {n : Nat} {xs : List Value} (h : w.ownsRow base e 1 v n xs) : ∀ g, v.ownBlock = some g → base ≤ g := by
  intro g hg
  obtain ⟨hl, h⟩ := h
  rcases h with ⟨rfl, rfl⟩ | ⟨g', cap, cur, rfl, hg', hh, _⟩
  · cases hg
  · cases hg; exact hg'
theorem EntOk.some {w : World} {base : Nat} {s : ByteArray} {a n : Nat} {e : MapEntry} (h : EntOk w base s a n e) : ∃ g, e.val.ownBlock = some g ∧ base ≤ g ∧ g < w.heap.size := by
  obtain ⟨q, _, h1, h2⟩ := h
  exact own_some h2 (by simp [pvals, nats, h1])
theorem EntOk.kept {w w' : World} {base : Nat} {s : ByteArray} {a n : Nat} {e : MapEntry} {row : Option Nat} (h : EntOk w base s a n e) (hg : w.grownBy w' row) (hne : e.val.ownBlock ≠ row) : EntOk w' base s a n e := by
  obtain ⟨q, h0, h1, h2⟩ := h
  exact ⟨q, h0, h1, h2.kept hg (.inr hne)⟩
theorem grown_setBlock {w : World} {b : Nat} {es : Array MapEntry} {clock : Nat} (hb : w.heap[b]? = some (.map es clock)) (o : Obj) : w.grownBy (setBlock w b o) (some b) :=
  ⟨rfl, rfl, rfl, by simp [setBlock], fun i _ hi => heap_setBlock_other hb _ (fun e1 => hi (by rw [e1]))⟩
theorem grown_later {w w' : World} (h : Below w.heap.size w w') (row : Option Nat) : w.grownBy w' row := ⟨h.os, h.tape, h.output, h.size, fun k hk _ => h.block k hk⟩
theorem Grp.made (w : World) (s : ByteArray) (a : Nat) : Grp (w.alloc (.map #[] 0)) (w.heap.size + 1) w.heap.size s a 0 :=
  ⟨#[], 0, (MapKept.heap_alloc w _).1, stamped_empty 0, by omega, by simp, fun q _ => rfl, by simp⟩
theorem Grp.later {w w' : World} {base B : Nat} {s : ByteArray} {a n : Nat} (h : Grp w base B s a n) (hb : Below w.heap.size w w') : Grp w' base B s a n := by
  obtain ⟨es, clock, h1, h2, h3, h4, h5, h6⟩ := h
  refine ⟨es, clock, (hb.block _ (Array.getElem?_eq_some_iff.1 h1).1).trans h1, h2, h3, fun e he => (h4 e he).kept (grown_later hb none) ?_, h5, h6⟩
  obtain ⟨g, hg, _⟩ := (h4 e he).some
  rw [hg]
  simp
theorem Hole.grown {w w' : World} {base B : Nat} {s : ByteArray} {a n q : Nat} {v v' : Value} {st : Nat} (h : Hole w base B s a n q v st) (hv : ∀ g, v.ownBlock = some g → base ≤ g) (hg : w.grownBy w' v.ownBlock) (hv' : v'.ownBlock = v.ownBlock ∨ ∃ g, v'.ownBlock = some g ∧ w.heap.size ≤ g) : Hole w' base B s a n q v' st := by
  obtain ⟨es, clock, h1, h2, h3, h4, h5, h6, h7⟩ := h
  refine ⟨es, clock, (hg.block _ (Array.getElem?_eq_some_iff.1 h1).1 ?_).trans h1, h2, h3, h4, fun e he hk => ⟨(h5 e he hk).1.kept hg (h5 e he hk).2, ?_⟩, h6, h7⟩
  · intro e
    have := hv B e.symm
    omega
  · obtain ⟨g, e1, _, e3⟩ := (h5 e he hk).1.some
    rcases hv' with e2 | ⟨g', e2, e4⟩
    · rw [e2]; exact (h5 e he hk).2
    · rw [e1, e2]
      intro e5
      cases e5
      omega
theorem mapEntry_grp {w : World} {base B : Nat} {s : ByteArray} {a n : Nat} (h : Grp w base B s a n) (q : Nat) :
    ∃ (v : Value) (st : Nat) (w1 : World), (Instr.mapEntry 136 (.map (some B)) (key4 s q)).run Try.prog w = .ok (.tuple #[v, goInt st]) w1 ∧ w1.ownsRow base 3 1 v (plc s q a n).length (pvals (plc s q a n)) ∧ Hole w1 base B s a n q v st ∧ w.grownBy w1 (some B) := by
  obtain ⟨es, clock, hb, h2, h3, h4, h5, h6⟩ := h
  obtain ⟨kl, hkey⟩ := keyOf_key4 s q
  have ht := Try.underlying136
  have keys : ∀ e ∈ es.toList, ∃ l, keyOf Try.prog 138 e.key = some l := fun e he => by
    obtain ⟨q', hq, _⟩ := h4 e he
    rw [hq]
    exact keyOf_key4 s q'
  have hold : ∀ (es1 : Array MapEntry) (c1 : Nat), ∀ e ∈ es.toList, EntOk (setBlock w B (.map es1 c1)) base s a n e := fun es1 c1 e he => by
    refine (h4 e he).kept (grown_setBlock hb _) ?_
    obtain ⟨g, hg, hg2, _⟩ := (h4 e he).some
    rw [hg]
    intro e5
    cases e5
    omega
  rcases keyed4.find w hkey es.toList keys with ⟨k1, k2⟩ | ⟨j, e0, k1, k2, k3⟩
  · refine ⟨.slice none 0 0, clock, _, ?_, ?_, ⟨es.push ⟨key4 s q, .slice none 0 0, clock⟩, clock + 1, heap_setBlock_same hb _, stamped_push h2 k2, h3, ⟨es.size, ⟨key4 s q, .slice none 0 0, clock⟩, by simp, rfl, rfl⟩, ?_, ?_, ?_⟩, grown_setBlock hb _⟩
    · simp [Instr.mapEntry, run_underlying ht, MapKept.run_getObj_map hb, keyed4.check w false hkey, k1, zero4, MapKept.run_setObj_map _ hb, Result.andThen, setBlock]
    · rw [h5 q k2]
      exact World.ownsRow_nil _ _ _ _
    · intro e he hk
      simp only [Array.toList_push, List.mem_append, List.mem_singleton] at he
      rcases he with he | rfl
      · refine ⟨hold _ _ e he, ?_⟩
        obtain ⟨g, hg, _⟩ := (h4 e he).some
        rw [hg]
        simp [Value.ownBlock]
      · exact absurd rfl hk
    · intro q' hq'
      exact h5 q' (fun e he => hq' e (by simp [he]))
    · intro x hx y hy hxk hyk
      simp only [Array.toList_push, List.mem_append, List.mem_singleton] at hx hy
      rcases hx with hx | rfl
      · rcases hy with hy | rfl
        · exact h6 x hx y hy
        · exact absurd rfl hyk
      · exact absurd rfl hxk
  · have hj : es[j]? = some e0 := by simpa using k2
    have hm := List.mem_of_getElem? k2
    have hsame : es.modify j (fun e => { e with key := key4 s q }) = es := by
      apply Array.ext'
      rw [Array.toList_modify, modify_eq_set _ _ _ _ k2]
      have : ({ e0 with key := key4 s q } : MapEntry) = e0 := by rw [← k3]
      rw [this]
      exact set_self _ _ _ k2
    refine ⟨e0.val, e0.born, setBlock w B (.map es clock), ?_, ?_, ⟨es, clock, heap_setBlock_same hb _, h2, h3, ⟨j, e0, k2, k3, rfl⟩, fun e he hk => ⟨hold _ _ e he, h6 e he e0 hm (by rw [k3]; exact hk)⟩, h5, fun x hx y hy _ _ => h6 x hx y hy⟩, grown_setBlock hb _⟩
    · simp [Instr.mapEntry, run_underlying ht, MapKept.run_getObj_map hb, keyed4.check w false hkey, k1, hj, k3, keyed4.stays w hkey, hsame, MapKept.run_setObj_map _ hb, Result.andThen, setBlock]
    · obtain ⟨q', e1, e2, e3⟩ := hold es clock e0 hm
      rw [← plc_congr ((key4_iff s q' q).1 (e1.symm.trans k3)) a n]
      exact e3
theorem plc_next (s : ByteArray) (q a n : Nat) : plc s q a (n + 1) = if fours s (a + n) = fours s q then plc s q a n ++ [a + n] else plc s q a n := by
  rw [plc_back]
  split <;> simp
theorem plc_self (s : ByteArray) (a n : Nat) : plc s (a + n) a (n + 1) = plc s (a + n) a n ++ [a + n] := by rw [plc_next, if_pos rfl]
theorem entryStore_grp {w : World} {base B : Nat} {s : ByteArray} {a n : Nat} {v : Value} {st : Nat} (h : Hole w base B s a n (a + n) v st)
    (hv : w.ownsRow base 3 1 v (plc s (a + n) a (n + 1)).length (pvals (plc s (a + n) a (n + 1)))) :
    ∃ w1, (Instr.entryStore 136 (.map (some B)) (goInt st) v).run Try.prog w = .ok () w1 ∧ Grp w1 base B s a (n + 1) ∧ w.grownBy w1 (some B) := by
  obtain ⟨es, clock, hb, h2, h3, ⟨j, e0, k1, k2, k3⟩, h5, h6, h7⟩ := h
  have hidx : es.findIdx? (fun e => ((e.born : Nat) : Int) == ((st : Nat) : Int)) = some j := by
    rw [findIdx_arr, ← k3]
    exact findIdx_born h2.2.1 k1
  have hj : es[j]? = some e0 := by simpa using k1
  have hne1 : plc s (a + n) a (n + 1) ≠ [] := by rw [plc_next, if_pos rfl]; simp
  have mem : ∀ e ∈ (es.modify j (fun e => { e with val := v })).toList, (e ∈ es.toList ∧ e.key ≠ key4 s (a + n)) ∨ (e.key = key4 s (a + n) ∧ e.val = v) := by
    intro e he
    obtain ⟨i, hi⟩ := List.getElem?_of_mem he
    rw [Array.getElem?_toList, Array.getElem?_modify] at hi
    by_cases hji : j = i
    · subst hji
      simp [hj] at hi
      subst hi
      exact .inr ⟨k2, rfl⟩
    · rw [if_neg hji] at hi
      have hm : e ∈ es.toList := Array.mem_toList_iff.2 (Array.mem_of_getElem? hi)
      refine .inl ⟨hm, fun hk => hji ?_⟩
      have hp := h2.2.2
      have l1 := (Array.getElem?_eq_some_iff.1 hi).1
      have l2 := (Array.getElem?_eq_some_iff.1 hj).1
      have gi : (es.toList.map (·.key))[i]? = some (key4 s (a + n)) := by simp [hi, hk]
      have gj : (es.toList.map (·.key))[j]? = some (key4 s (a + n)) := by simp [hj, k2]
      obtain ⟨m1, gi2⟩ := List.getElem?_eq_some_iff.1 gi
      obtain ⟨m2, gj2⟩ := List.getElem?_eq_some_iff.1 gj
      rcases Nat.lt_trichotomy i j with hl | hl | hl
      · exact absurd (gi2.trans gj2.symm) (List.pairwise_iff_getElem.1 hp i j m1 m2 hl)
      · exact hl.symm
      · exact absurd (gj2.trans gi2.symm) (List.pairwise_iff_getElem.1 hp j i m2 m1 hl)
  have own' : ∀ {u : Value} {k : Nat} {xs : List Value}, w.ownsRow base 3 1 u k xs → (setBlock w B (.map (es.modify j fun e => { e with val := v }) clock)).ownsRow base 3 1 u k xs := fun {u k xs} ho => by
    refine ho.kept (grown_setBlock hb _) (.inr ?_)
    intro e
    have := own_base ho B e
    omega
  have hkeys : (es.modify j (fun e => { e with val := v })).toList.map (·.key) = es.toList.map (·.key) := modify_keys j _ (fun _ _ => rfl)
  refine ⟨_, ?_, ⟨es.modify j (fun e => { e with val := v }), clock, heap_setBlock_same hb _, stamped_modify h2 j _ (fun _ _ => rfl) (fun _ _ _ => rfl), h3, ?_, ?_, ?_⟩, grown_setBlock hb _⟩
  · simp [Instr.entryStore, MapKept.run_getObj_map hb, asInt, asIntOf, goInt, hidx, MapKept.run_setObj_map _ hb, Result.andThen, setBlock]
  · intro e he
    rcases mem e he with ⟨hm, hk⟩ | ⟨hk, rfl⟩
    · obtain ⟨q, e1, e2, e3⟩ := (h5 e hm hk).1
      have hq : fours s (a + n) ≠ fours s q := fun e4 => hk (e1.trans ((key4_iff s q (a + n)).2 e4.symm))
      have e5 : plc s q a (n + 1) = plc s q a n := by rw [plc_next, if_neg hq]
      exact ⟨q, e1, by rw [e5]; exact e2, by rw [e5]; exact own' e3⟩
    · exact ⟨a + n, hk, hne1, own' hv⟩
  · intro q hq
    have hq2 : ∀ e ∈ es.toList, e.key ≠ key4 s q := fun e he hk => by
      have hm : e.key ∈ (es.modify j (fun e => { e with val := v })).toList.map (·.key) := by rw [hkeys]; exact List.mem_map.2 ⟨e, he, rfl⟩
      obtain ⟨e', he', h'⟩ := List.mem_map.1 hm
      exact hq e' he' (h'.trans hk)
    have hq3 : fours s (a + n) ≠ fours s q := fun e4 => hq2 e0 (List.mem_of_getElem? k1) (k2.trans ((key4_iff s (a + n) q).2 e4))
    rw [plc_next, if_neg hq3]
    exact h6 q hq2
  · intro x hx y hy hxy
    rcases mem x hx with ⟨hm, hk⟩ | ⟨hk, rfl⟩
    · rcases mem y hy with ⟨hm', hk'⟩ | ⟨hk', rfl⟩
      · exact h7 x hm y hm' hk hk' hxy
      · exact (h5 x hm hk).2
    · rcases mem y hy with ⟨hm', hk'⟩ | ⟨hk', e⟩
      · exact (h5 y hm' hk').2.symm
      · exact absurd (hk.trans hk'.symm) hxy
theorem lookup_grp {w : World} {base B : Nat} {s : ByteArray} {a n : Nat} (h : Grp w base B s a n) (q : Nat) :
    ∃ v, (Instr.lookup 136 (.map (some B)) (key4 s q) false).run Try.prog w = .ok v w ∧ w.ownsRow base 3 1 v (plc s q a n).length (pvals (plc s q a n)) := by
  obtain ⟨es, clock, hb, h2, h3, h4, h5, h6⟩ := h
  obtain ⟨kl, hkey⟩ := keyOf_key4 s q
  have ht := Try.underlying136
  have keys : ∀ e ∈ es.toList, ∃ l, keyOf Try.prog 138 e.key = some l := fun e he => by
    obtain ⟨q', hq, _⟩ := h4 e he
    rw [hq]
    exact keyOf_key4 s q'
  rcases keyed4.find w hkey es.toList keys with ⟨k1, k2⟩ | ⟨j, e0, k1, k2, k3⟩
  · refine ⟨.slice none 0 0, ?_, ?_⟩
    · simp [Instr.lookup, run_underlying ht, MapKept.run_getObj_map hb, keyed4.check w _ hkey, k1, zero4, Result.andThen]
    · rw [h5 q k2]
      exact World.ownsRow_nil _ _ _ _
  · refine ⟨e0.val, ?_, ?_⟩
    · simp [Instr.lookup, run_underlying ht, MapKept.run_getObj_map hb, keyed4.check w _ hkey, k1, Result.andThen]
    · obtain ⟨q', e1, e2, e3⟩ := h4 e0 (List.mem_of_getElem? k2)
      rw [← plc_congr ((key4_iff s q' q).1 (e1.symm.trans k3)) a n]
      exact e3
end Go.Proofs.Ytammacofhdbgcaa
