/-
  Windows: checks, common lengths, candidates, walked.
-/
import Derived.Test.YtmblpmaelglnpaaDoorRows
import Derived.Test.YtmblpmaelglnpaaDoorGBase
import Derived.WalkMore
import Derived.Deep.Light
import Derived.Shelf.Abstract
import Derived.Shelf.RegionOpen
import Derived.OwnWalkIn
import Derived.TacticsInMore
import Derived.LoopNIn
import Derived.LoopIn
import Derived.Lib.LazyBuf
import Derived.WideKeyArr
import Derived.WideKeyEntry
import Derived.Maps.Keyed
import Derived.Maps.AppendAt
import Derived.Maps.OwnOps
import Derived.Outline
import Derived.Maps.OwnIn
namespace Go.Proofs.YtmblpmaelglnpaaDoor
open Go.RowKit
set_option linter.unusedSimpArgs false
set_option linter.unusedVariables false
attribute [local go_sem] Oper.semAt_some

/-- The check of a view. -/
def wOk (n : Nat) (p e l : Int) : Prop := 0 ≤ p ∧ p ≤ e ∧ e ≤ n ∧ 10 ≤ l ∧ l ≤ 27
instance (n : Nat) (p e l : Int) : Decidable (wOk n p e l) := by unfold wOk; infer_instance
def wchk (n : Nat) (p e l : Int) : Int := if 1048576 < n then 4 else if wOk n p e l then 0 else 2
theorem wchk_4 {n : Nat} {p e l : Int} (h : (1048576 : Int) < (n : Int)) : wchk n p e l = 4 := by unfold wchk; rw [if_pos (by omega)]
theorem wchk_2 {n : Nat} {p e l : Int} (h : ¬ (1048576 : Int) < (n : Int)) (h2 : ¬ wOk n p e l) : wchk n p e l = 2 := by unfold wchk; rw [if_neg (by omega), if_neg h2]
theorem wchk_0 {n : Nat} {p e l : Int} (h : ¬ (1048576 : Int) < (n : Int)) (h2 : wOk n p e l) : wchk n p e l = 0 := by unfold wchk; rw [if_neg (by omega), if_pos h2]
theorem wchk_ok {n : Nat} {p e l : Int} (h : wchk n p e l = 0) : n ≤ 1048576 ∧ wOk n p e l := by
  unfold wchk at h
  split at h
  · simp at h
  · split at h
    · exact ⟨by omega, by assumption⟩
    · simp at h

/-! The common length of two places -/
def byt (s : ByteArray) (i : Nat) : Nat := if h : i < s.size then (s[i]'h).toNat else 0
theorem byt_get {s : ByteArray} {i c : Nat} (h : i < s.size) (hc : (s[i]'h).toNat = c) : byt s i = c := by unfold byt; rw [dif_pos h, hc]
def cmn (s : ByteArray) : Nat → Nat → Nat → Nat
  | 0, _, _ => 0
  | f + 1, q, p => if byt s q = byt s p then 1 + cmn s f (q + 1) (p + 1) else 0
theorem cmn_eq (s : ByteArray) : ∀ (n f q p : Nat), n ≤ f → (∀ j, j < n → byt s (q + j) = byt s (p + j)) → (n = f ∨ byt s (q + n) ≠ byt s (p + n)) → cmn s f q p = n := by
  intro n
  induction n with
  | zero =>
    intro f q p _ _ h
    cases f with
    | zero => rfl
    | succ f =>
      rcases h with h | h
      · omega
      · simp only [Nat.add_zero] at h
        simp [cmn, h]
  | succ n ih =>
    intro f q p hf hj h
    cases f with
    | zero => omega
    | succ f =>
      have h0 := hj 0 (by omega)
      simp only [Nat.add_zero] at h0
      simp only [cmn, h0, if_true]
      rw [ih f (q + 1) (p + 1) (by omega) (fun j hjn => by
        have := hj (j + 1) (by omega)
        rw [show q + 1 + j = q + (j + 1) by omega, show p + 1 + j = p + (j + 1) by omega]
        exact this) (by
        rcases h with h | h
        · left; omega
        · right
          rw [show q + 1 + n = q + (n + 1) by omega, show p + 1 + n = p + (n + 1) by omega]
          exact h)]
      omega
/-- What Common returns. -/
def wcom (s : ByteArray) (q p e : Int) : Int × Int := if 1048576 < s.size then (0, 4) else if 0 ≤ q ∧ q < p ∧ p ≤ e ∧ e ≤ (s.size : Int) then (((cmn s (e - p).toNat q.toNat p.toNat : Nat) : Int), 0) else (0, 2)

end Go.Proofs.YtmblpmaelglnpaaDoor
namespace Go.Proofs.YtmblpmaelglnpaaDoor
open Go.RowKit
set_option linter.unusedSimpArgs false
set_option linter.unusedVariables false
attribute [local go_sem] Oper.semAt_some

theorem pow_le {l : Int} (h : l ≤ 27) : 1 ≤ (2 : Int) ^ l.toNat ∧ (2 : Int) ^ l.toNat ≤ 134217728 := by
  have key : ∀ k : Fin 28, 1 ≤ (2 : Int) ^ k.1 ∧ (2 : Int) ^ k.1 ≤ 134217728 := by decide
  exact key ⟨l.toNat, by omega⟩
/-- What Reach returns. -/
def wrea (p l : Int) : Int × Int := if 0 ≤ p ∧ p ≤ 1048576 ∧ 10 ≤ l ∧ l ≤ 27 then (min p ((2 : Int) ^ l.toNat), 0) else (0, 2)

end Go.Proofs.YtmblpmaelglnpaaDoor
namespace Go.Proofs.YtmblpmaelglnpaaDoor
open Go.RowKit
set_option linter.unusedSimpArgs false
set_option linter.unusedVariables false
attribute [local go_sem] Oper.semAt_some

/-- The four bytes at a place, as the program holds them. -/
def b4 (s : ByteArray) (q : Nat) : List Value := [.int .u8 (byt s q : Nat), .int .u8 (byt s (q + 1) : Nat), .int .u8 (byt s (q + 2) : Nat), .int .u8 (byt s (q + 3) : Nat)]
theorem ext4 (s : ByteArray) (q : Nat) (h : q + 4 ≤ s.size) : (s.extract q (q + 4)).data.toList.map (fun x => Value.int .u8 (x.toNat : Int)) = b4 s q := by
  have hs : s.data.size = s.size := rfl
  have e : ∀ i (hi : i < 4), (s.extract q (q + 4)).data.toList[i]? = some (s[q + i]'(by omega)) := by
    intro i hi
    simp only [ByteArray.data_extract, Array.toList_extract]
    simp
    rw [List.getElem?_take, if_pos hi, List.getElem?_drop, Array.getElem?_toList, Array.getElem?_eq_getElem (by omega)]
    rfl
  have hb : ∀ i (hi : i < 4), byt s (q + i) = (s[q + i]'(by omega)).toNat := fun i hi => byt_get (by omega) rfl
  apply List.ext_getElem?
  intro i
  rw [List.getElem?_map]
  by_cases hi : i < 4
  · rw [e i hi]
    have := hb i hi
    rcases i with _ | _ | _ | _ | i
    · simp [b4] at this ⊢; rw [this]
    · simp [b4] at this ⊢; rw [this]
    · simp [b4] at this ⊢; rw [this]
    · simp [b4] at this ⊢; rw [this]
    · omega
  · have hz : (s.extract q (q + 4)).data.toList.length = 4 := by
      simp [ByteArray.data_extract]
      omega
    rw [List.getElem?_eq_none (by omega), List.getElem?_eq_none (by simp [b4]; omega)]
    rfl
end Go.Proofs.YtmblpmaelglnpaaDoor
namespace Go.Proofs.YtmblpmaelglnpaaDoor
open Go.RowKit
set_option linter.unusedSimpArgs false
set_option linter.unusedVariables false
attribute [local go_sem] Oper.semAt_some
theorem or_mul4 (a b i m : Nat) (hm : m = 2 ^ i) (h : a < m) : a ||| (b * m) = b * m + a := by
  subst hm
  rw [Nat.or_comm, ← Nat.shiftLeft_eq, Nat.shiftLeft_add_eq_or_of_lt h]
theorem or64 (a b : Nat) (ha : a < 2 ^ 62) (hb : b < 2 ^ 62) : bits BinOp.or IntKind.i64 (a : Int) (b : Int) = ((a ||| b : Nat) : Int) := by
  have h := Nat.or_lt_two_pow ha hb
  have e64 : IntKind.i64.bits = 64 := rfl
  unfold bits
  simp only [e64, BitVec.ofInt_natCast, BitVec.toNat_or, BitVec.toNat_ofNat]
  rw [Nat.mod_eq_of_lt (by omega), Nat.mod_eq_of_lt (by omega), IntKind.wrap_i64]
  omega
theorem sum4 (x y z u : Nat) (hx : x < 256) (hy : y < 256) (hz : z < 256) (hu : u < 256) :
    bits BinOp.or IntKind.i64 (bits BinOp.or IntKind.i64 (bits BinOp.or IntKind.i64 (bits BinOp.or IntKind.i64 0 (x : Int)) ((y : Int) * 256)) ((z : Int) * 65536)) ((u : Int) * 16777216) = (x : Int) + y * 256 + z * 65536 + u * 16777216 := by
  have e0 : (0 : Int) = ((0 : Nat) : Int) := rfl
  have e1 : ((y : Int) * 256) = ((y * 256 : Nat) : Int) := by omega
  have e2 : ((z : Int) * 65536) = ((z * 65536 : Nat) : Int) := by omega
  have e3 : ((u : Int) * 16777216) = ((u * 16777216 : Nat) : Int) := by omega
  rw [e1, e2, e3, e0, or64 0 x (by omega) (by omega), Nat.zero_or, or64 x (y * 256) (by omega) (by omega), or_mul4 x y 8 256 (by decide) (by omega), or64 _ (z * 65536) (by omega) (by omega), or_mul4 _ z 16 65536 (by decide) (by omega), or64 _ (u * 16777216) (by omega) (by omega), or_mul4 _ u 24 16777216 (by decide) (by omega)]
  omega




/-- What Four returns. -/
def wfour (s : ByteArray) (p : Int) : Int × Int := if 1048576 < s.size then (0, 4) else if 0 ≤ p ∧ p + 4 ≤ (s.size : Int) then ((byt s p.toNat : Int) + (byt s (p.toNat + 1) : Nat) * 256 + (byt s (p.toNat + 2) : Nat) * 65536 + (byt s (p.toNat + 3) : Nat) * 16777216, 0) else (0, 2)
theorem byt_lt (s : ByteArray) (i : Nat) : byt s i < 256 := by
  unfold byt
  split
  · exact UInt8.toNat_lt _
  · decide

end Go.Proofs.YtmblpmaelglnpaaDoor
namespace Go.Proofs.YtmblpmaelglnpaaDoor
open Go.RowKit
set_option linter.unusedSimpArgs false
set_option linter.unusedVariables false
/-- Four bytes at a place, as numbers. -/
def fours (s : ByteArray) (q : Nat) : List Nat := [byt s q, byt s (q + 1), byt s (q + 2), byt s (q + 3)]
/-- The places from a on, n of them, that hold the same four bytes as place p. -/
def plc (s : ByteArray) (p a n : Nat) : List Nat := (List.range' a n).filter fun q => fours s q == fours s p
theorem plc_zero (s : ByteArray) (p a : Nat) : plc s p a 0 = [] := rfl
theorem plc_front (s : ByteArray) (p a n : Nat) : plc s p a (n + 1) = (if fours s a = fours s p then [a] else []) ++ plc s p (a + 1) n := by
  unfold plc
  rw [List.range'_succ, List.filter_cons]
  by_cases h : fours s a = fours s p <;> simp [h]
theorem plc_back (s : ByteArray) (p a n : Nat) : plc s p a (n + 1) = plc s p a n ++ (if fours s (a + n) = fours s p then [a + n] else []) := by
  unfold plc
  rw [List.range'_concat, List.filter_append]
  by_cases h : fours s (a + n) = fours s p <;> simp [h]
/-- How far back candidates may lie. -/
def wback (p l : Nat) : Nat := min p (2 ^ l)
/-- The candidates of a place, the nearest one first, at most so many. -/
def cands (s : ByteArray) (p e l most : Nat) : List Nat := if e - p < 4 then [] else ((plc s p (p - wback p l) (wback p l)).reverse).take most
/-- The reference's way: one place further back. -/
theorem back_step (s : ByteArray) (p k : Nat) (h : k < p) : (plc s p (p - (k + 1)) (k + 1)).reverse = (plc s p (p - k) k).reverse ++ (if fours s (p - (k + 1)) = fours s p then [p - (k + 1)] else []) := by
  rw [plc_front, List.reverse_append, show p - (k + 1) + 1 = p - k by omega]
  congr 1
  split <;> rfl
theorem take_app_full {α : Type} (l r : List α) (m : Nat) (h : l.length = m) : (l ++ r).take m = l := by
  subst h
  simp
end Go.Proofs.YtmblpmaelglnpaaDoor
namespace Go.Proofs.YtmblpmaelglnpaaDoor
open Go.RowKit Go.MapKept Go.Maps Go.WideMaps
open Go.ChangeMaps (setBlock heap_setBlock_same heap_setBlock_other modify_eq_set)
open Go.WideElems (findIdx_born findIdx_arr modify_last set_self)
set_option linter.unusedSimpArgs false
set_option linter.unusedVariables false
theorem zero4 (u : World) : (zeroValue 44).run Tryd.prog u = .ok (.slice none 0 0) u := by kernel_rfl
/-- The key of a place. -/
def key4 (s : ByteArray) (q : Nat) : Value := .agg (b4 s q).toArray
theorem key4_iff (s : ByteArray) (q p : Nat) : key4 s q = key4 s p ↔ fours s q = fours s p := by
  unfold key4 b4 fours
  simp [Int.natCast_inj]
theorem wf_byt (s : ByteArray) (i : Nat) : (Lit.int .u8 (byt s i : Nat)).wf = true := by
  have := byt_lt s i
  simp [Lit.wf, IntKind.min, IntKind.max, IntKind.signed, IntKind.bits]
  omega
theorem plc_congr {s : ByteArray} {q p : Nat} (h : fours s q = fours s p) (a n : Nat) : plc s q a n = plc s p a n := by unfold plc; rw [h]
/-- Places as the program holds them. -/
def nats (l : List Nat) : List Int := l.map fun (n : Nat) => (n : Int)
def pvals (l : List Nat) : List Value := (nats l).map (Value.int .i64)
/-- An entry of the map. -/
def EntOk (w : World) (base : Nat) (s : ByteArray) (a n : Nat) (e : Go.MapEntry) : Prop :=
  ∃ q, e.key = key4 s q ∧ plc s q a n ≠ [] ∧ w.ownsRow base 3 1 e.val (plc s q a n).length (pvals (plc s q a n))
/-- Block B is the map of the places from a on, n of them. -/
def Grp (w : World) (base B : Nat) (s : ByteArray) (a n : Nat) : Prop :=
  ∃ es clock, w.heap[B]? = some (.map es clock) ∧ Stamped es clock ∧ B < base ∧ (∀ e ∈ es.toList, EntOk w base s a n e) ∧ (∀ q, (∀ e ∈ es.toList, e.key ≠ key4 s q) → plc s q a n = []) ∧
    (∀ x ∈ es.toList, ∀ y ∈ es.toList, x.key ≠ y.key → x.val.ownBlock ≠ y.val.ownBlock)
/-- The same, but that the entry at a place's key, which has this stamp, is open. -/
def Hole (w : World) (base B : Nat) (s : ByteArray) (a n q : Nat) (v : Value) (st : Nat) : Prop :=
  ∃ es clock, w.heap[B]? = some (.map es clock) ∧ Stamped es clock ∧ B < base ∧ (∃ (j : Nat) (e0 : Go.MapEntry), es.toList[j]? = some e0 ∧ e0.key = key4 s q ∧ e0.born = st) ∧
    (∀ e ∈ es.toList, e.key ≠ key4 s q → EntOk w base s a n e ∧ e.val.ownBlock ≠ v.ownBlock) ∧ (∀ q', (∀ e ∈ es.toList, e.key ≠ key4 s q') → plc s q' a n = []) ∧
    (∀ x ∈ es.toList, ∀ y ∈ es.toList, x.key ≠ key4 s q → y.key ≠ key4 s q → x.key ≠ y.key → x.val.ownBlock ≠ y.val.ownBlock)
theorem own_some {w : World} {base : Nat} {e : TypeId} {v : Value} {n : Nat} {xs : List Value} (h : w.ownsRow base e 1 v n xs) (hn : xs ≠ []) : ∃ g, v.ownBlock = some g ∧ base ≤ g ∧ g < w.heap.size := by
  obtain ⟨hl, h⟩ := h
  rcases h with ⟨rfl, rfl⟩ | ⟨g, cap, cur, rfl, hg, hh, _⟩
  · exact absurd (List.length_eq_zero_iff.1 (by simpa using hl)) hn
  · exact ⟨g, rfl, hg, (Array.getElem?_eq_some_iff.1 hh).1⟩
theorem own_base {w : World} {base : Nat} {e : TypeId} {v : Value} {n : Nat} {xs : List Value} (h : w.ownsRow base e 1 v n xs) : ∀ g, v.ownBlock = some g → base ≤ g := by
  intro g hg
  obtain ⟨hl, h⟩ := h
  rcases h with ⟨rfl, rfl⟩ | ⟨g', cap, cur, rfl, hg', hh, _⟩
  · cases hg
  · cases hg; exact hg'
theorem EntOk.some {w : World} {base : Nat} {s : ByteArray} {a n : Nat} {e : MapEntry} (h : EntOk w base s a n e) : ∃ g, e.val.ownBlock = some g ∧ base ≤ g ∧ g < w.heap.size := by
  obtain ⟨q, _, h1, h2⟩ := h
  exact own_some h2 (by simp [pvals, nats, h1])
theorem EntOk.kept {w w' : World} {base : Nat} {s : ByteArray} {a n : Nat} {e : MapEntry} {row : Option Nat} (h : EntOk w base s a n e) (hg : w.grownBy w' row) (hne : e.val.ownBlock ≠ row) : EntOk w' base s a n e := by
  obtain ⟨q, h0, h1, h2⟩ := h
  exact ⟨q, h0, h1, h2.kept hg (.inr hne)⟩
theorem grown_setBlock {w : World} {b : Nat} {es : Array MapEntry} {clock : Nat} (hb : w.heap[b]? = some (.map es clock)) (o : Obj) : w.grownBy (setBlock w b o) (some b) :=
  ⟨rfl, rfl, rfl, by simp [setBlock], fun i _ hi => heap_setBlock_other hb _ (fun e1 => hi (by rw [e1]))⟩
theorem grown_later {w w' : World} (h : Below w.heap.size w w') (row : Option Nat) : w.grownBy w' row := ⟨h.os, h.tape, h.output, h.size, fun k hk _ => h.block k hk⟩
theorem Grp.made (w : World) (s : ByteArray) (a : Nat) : Grp (w.alloc (.map #[] 0)) (w.heap.size + 1) w.heap.size s a 0 :=
  ⟨#[], 0, (MapKept.heap_alloc w _).1, stamped_empty 0, by omega, by simp, fun q _ => rfl, by simp⟩
theorem Grp.later {w w' : World} {base B : Nat} {s : ByteArray} {a n : Nat} (h : Grp w base B s a n) (hb : Below w.heap.size w w') : Grp w' base B s a n := by
  obtain ⟨es, clock, h1, h2, h3, h4, h5, h6⟩ := h
  refine ⟨es, clock, (hb.block _ (Array.getElem?_eq_some_iff.1 h1).1).trans h1, h2, h3, fun e he => (h4 e he).kept (grown_later hb none) ?_, h5, h6⟩
  obtain ⟨g, hg, _⟩ := (h4 e he).some
  rw [hg]
  simp
theorem Hole.grown {w w' : World} {base B : Nat} {s : ByteArray} {a n q : Nat} {v v' : Value} {st : Nat} (h : Hole w base B s a n q v st) (hv : ∀ g, v.ownBlock = some g → base ≤ g) (hg : w.grownBy w' v.ownBlock) (hv' : v'.ownBlock = v.ownBlock ∨ ∃ g, v'.ownBlock = some g ∧ w.heap.size ≤ g) : Hole w' base B s a n q v' st := by
  obtain ⟨es, clock, h1, h2, h3, h4, h5, h6, h7⟩ := h
  refine ⟨es, clock, (hg.block _ (Array.getElem?_eq_some_iff.1 h1).1 ?_).trans h1, h2, h3, h4, fun e he hk => ⟨(h5 e he hk).1.kept hg (h5 e he hk).2, ?_⟩, h6, h7⟩
  · intro e
    have := hv B e.symm
    omega
  · obtain ⟨g, e1, _, e3⟩ := (h5 e he hk).1.some
    rcases hv' with e2 | ⟨g', e2, e4⟩
    · rw [e2]; exact (h5 e he hk).2
    · rw [e1, e2]
      intro e5
      cases e5
      omega
theorem plc_next (s : ByteArray) (q a n : Nat) : plc s q a (n + 1) = if fours s (a + n) = fours s q then plc s q a n ++ [a + n] else plc s q a n := by
  rw [plc_back]
  split <;> simp
theorem plc_self (s : ByteArray) (a n : Nat) : plc s (a + n) a (n + 1) = plc s (a + n) a n ++ [a + n] := by rw [plc_next, if_pos rfl]
end Go.Proofs.YtmblpmaelglnpaaDoor
namespace Go.Proofs.YtmblpmaelglnpaaDoor
open Go.RowKit
set_option linter.unusedSimpArgs false
set_option linter.unusedVariables false
open Go.Shelf
attribute [local go_sem] Oper.semAt_some

section
open Go.Maps
variable {F : Fence} {nF : Nat} {w : World} {ops : Array Oper} {rest : List Oper} {o : Oper} {act : Act} {Q : Exit → Act → World → Prop}
theorem own_next {w : World} {base : Nat} {s : ByteArray} {a k q : Nat} {v : Value} (hq : a + k = q) (h : w.ownsRow base 3 1 v ((plc s q a k).length + 1) (pvals (plc s q a k) ++ [.int .i64 (q : Int)])) :
    w.ownsRow base 3 1 v (plc s q a (k + 1)).length (pvals (plc s q a (k + 1))) := by
  subst hq
  rw [plc_self]
  simpa [pvals, nats] using h
theorem news_one {w : World} {b : Nat} {x : Value} (h : w.cell? ⟨b, 0, none⟩ = some x) : ∀ (j : Nat) (u : Value), [x][j]? = some u → w.cell? ((⟨b, 0, none⟩ : Addr).add j) = some u := by
  intro j u hj
  match j, hj with
  | 0, hj =>
    simp at hj
    subst hj
    simpa [Addr.add] using h
theorem one_int (k : IntKind) (x : Int) : ∀ u ∈ [Value.int k x], u.oneCell' = true := by
  intro u hu
  simp at hu
  subst hu
  rfl
theorem plc_len (s : ByteArray) (q a n : Nat) : (plc s q a n).length ≤ n := by
  unfold plc
  refine Nat.le_trans (List.length_filter_le _ _) (by simp)
end

theorem wback_int (p l : Nat) : ((wback p l : Nat) : Int) = min (p : Int) ((2 : Int) ^ l) := by
  unfold wback
  have : ((2 ^ l : Nat) : Int) = (2 : Int) ^ l := by simp
  omega
/-- The candidates of a place, the nearest one first, all of them. -/
def candAll (s : ByteArray) (p e l : Nat) : List Nat := if e - p < 4 then [] else (plc s p (p - wback p l) (wback p l)).reverse
end Go.Proofs.YtmblpmaelglnpaaDoor
namespace Go.Proofs.YtmblpmaelglnpaaDoor
open Go.RowKit
set_option linter.unusedSimpArgs false
set_option linter.unusedVariables false
open Go.Shelf
attribute [local go_sem] Oper.semAt_some

theorem st_slice {P : Program} (w : World) (a : Addr) (b : Option Addr) (n c : Nat) (m : Mode) : (store a (.slice b n c) m).run P w = stored P w a (.slice b n c) m := run_store P w a _ m rfl
theorem own_slice {w : World} {base : Nat} {e : TypeId} {v : Value} {n : Nat} {xs : List Value} (h : w.ownsRow base e 1 v n xs) : ∃ a cap, v = .slice a n cap := by
  rcases h.2 with ⟨rfl, rfl⟩ | ⟨g, cap, cur, rfl, _⟩
  · exact ⟨none, 0, rfl⟩
  · exact ⟨_, cap, rfl⟩
theorem own_cap {w : World} {base : Nat} {e : TypeId} {a : Option Addr} {n m cap : Nat} {xs : List Value} (h : w.ownsRow base e 1 (.slice a m cap) n xs) : m ≤ cap := by
  rcases h.2 with ⟨h1, rfl⟩ | ⟨g, cap', cur, h1, _, _, h2, _⟩
  · simp at h1; omega
  · simp at h1; omega
theorem own_cells {w : World} {base : Nat} {e : TypeId} {v : Value} {n : Nat} {xs : List Value} (h : w.ownsRow base e 1 v n xs) : ∀ g, v.ownBlock = some g → ∃ c t q, w.heap[g]? = some (.cells c t q) := by
  intro g hg
  rcases h.2 with ⟨rfl, rfl⟩ | ⟨g', cap, cur, rfl, _, hh, _⟩
  · cases hg
  · cases hg; exact ⟨_, _, _, hh⟩
theorem grown_setCell (w : World) (a : Addr) (v : Value) : w.grownBy (w.setCell a v) (some a.block) :=
  ⟨rfl, rfl, rfl, by simp, fun k hk hne => by
    have : a.block ≠ k := fun e => hne (by rw [e])
    simp [World.setCell, Array.getElem?_modify, this]⟩
theorem keepsFrom_grown {B : Nat} {w w' : World} {row : Option Nat} (h : w.grownBy w' row) (hr : ∀ g, row = some g → ∃ c t q, w.heap[g]? = some (.cells c t q)) : KeepsFrom B w w' :=
  ⟨h.size, fun k o _ hk ho => by
    rw [h.block k (Array.getElem?_eq_some_iff.1 hk).1 (fun e => by
      obtain ⟨c, t, q, h2⟩ := hr k e.symm
      rw [hk] at h2
      cases h2
      simp [Obj.isCells] at ho)]
    exact hk⟩
theorem Row.keep {k : IntKind} {B : Nat} {w w' : World} {a : Option Addr} {xs : List Int} (h : Row k w a xs) (hk : Keep B w w') : Row k w' a xs := by
  rcases h with h | ⟨b, off, ha, hlt, hc⟩
  · exact .inl h
  · exact .inr ⟨b, off, ha, Nat.lt_of_lt_of_le hlt hk.size, fun i hi => hk.cell (hc i hi)⟩
theorem nats_len (l : List Nat) : (nats l).length = l.length := by simp [nats]
end Go.Proofs.YtmblpmaelglnpaaDoor
namespace Go.Proofs.YtmblpmaelglnpaaDoor
open Go.RowKit
set_option linter.unusedSimpArgs false
set_option linter.unusedVariables false
attribute [local go_sem] Oper.semAt_some

/-- What hands back places and an error: the slice leads to these numbers. -/
def CandPost (R : List Nat × Int) (w : World) (e : Ending) (w' : World) : Prop :=
  ∃ pa ca, R.1.length ≤ ca ∧ e = .returned (.tuple #[.slice pa R.1.length ca, .int .i64 R.2]) ∧ Row .i64 w' pa (nats R.1) ∧ Below w.heap.size w w'
/-- The candidates up to k places back. -/
def back (s : ByteArray) (p k : Nat) : List Nat := (plc s p (p - k) k).reverse
theorem back_succ (s : ByteArray) (p k : Nat) (h : k < p) : back s p (k + 1) = back s p k ++ (if fours s (p - (k + 1)) = fours s p then [p - (k + 1)] else []) := back_step s p k h
theorem back_more (s : ByteArray) (p k : Nat) : ∀ m, k + m ≤ p → ∃ r, back s p (k + m) = back s p k ++ r := by
  intro m
  induction m with
  | zero => intro _; exact ⟨[], by simp⟩
  | succ m ih =>
    intro h
    obtain ⟨r, hr⟩ := ih (by omega)
    have := back_succ s p (k + m) (by omega)
    rw [show k + m + 1 = k + (m + 1) by omega] at this
    rw [this, hr]
    exact ⟨_, List.append_assoc _ _ _⟩
theorem cands_stop (s : ByteArray) (p e l most k : Nat) (he : ¬ e - p < 4) (hk : k ≤ wback p l) (hl : (back s p k).length ≤ most) (h : k = wback p l ∨ (back s p k).length = most) : cands s p e l most = back s p k := by
  have hw : wback p l ≤ p := by unfold wback; omega
  unfold cands
  rw [if_neg he]
  obtain ⟨r, hr⟩ := back_more s p k (wback p l - k) (by omega)
  rw [show k + (wback p l - k) = wback p l by omega] at hr
  change (back s p (wback p l)).take most = _
  rcases h with h | h
  · subst h
    rw [List.take_of_length_le hl]
  · rw [hr]
    exact take_app_full _ _ _ h
theorem byte_fours (s : ByteArray) (q p : Nat) (hq : q + 4 ≤ s.size) (hp : p + 4 ≤ s.size) : (s.extract q (q + 4) = s.extract p (p + 4)) ↔ fours s q = fours s p := by
  have e1 := ext4 s q hq
  have e2 := ext4 s p hp
  rw [← key4_iff]
  unfold key4
  constructor
  · intro h
    rw [← e1, ← e2, h]
  · intro h
    have h2 : b4 s q = b4 s p := by simpa using h
    rw [← e1, ← e2] at h2
    have h3 : (s.extract q (q + 4)).data.toList = (s.extract p (p + 4)).data.toList := by
      refine (List.map_inj_right ?_).1 h2
      intro a b hab
      simp at hab
      exact UInt8.toNat_inj.1 (by omega)
    have h4 : (s.extract q (q + 4)).data = (s.extract p (p + 4)).data := Array.toList_inj.1 h3
    exact ByteArray.ext h4
theorem beq_bytes (a b : ByteArray) : (a.toList == b.toList) = decide (a = b) := by
  rw [Bool.eq_iff_iff, ByteArray.toList_eq, ByteArray.toList_eq]
  simp [Array.toList_inj, ByteArray.ext_iff]

end Go.Proofs.YtmblpmaelglnpaaDoor
namespace Go.Proofs.YtmblpmaelglnpaaDoor
open Go.RowKit
set_option linter.unusedSimpArgs false
set_option linter.unusedVariables false
theorem cmn_le (s : ByteArray) : ∀ f q p, cmn s f q p ≤ f := by
  intro f
  induction f with
  | zero => intro q p; simp [cmn]
  | succ f ih =>
    intro q p
    unfold cmn
    split
    · have := ih (q + 1) (p + 1); omega
    · omega
theorem cmn_four (s : ByteArray) (f q p : Nat) : 4 ≤ cmn s f q p ↔ 4 ≤ f ∧ fours s q = fours s p := by
  rcases Nat.lt_or_ge f 4 with h | h
  · constructor
    · intro h2
      have := cmn_le s f q p
      omega
    · rintro ⟨h1, _⟩
      omega
  · obtain ⟨g, rfl⟩ : ∃ g, f = g + 4 := ⟨f - 4, by omega⟩
    simp only [cmn, fours, List.cons.injEq, and_true]
    by_cases h0 : byt s q = byt s p
    · by_cases h1 : byt s (q + 1) = byt s (p + 1)
      · by_cases h2 : byt s (q + 2) = byt s (p + 2)
        · by_cases h3 : byt s (q + 3) = byt s (p + 3)
          · simp only [h0, h1, if_true, show q + 1 + 1 = q + 2 by omega, show p + 1 + 1 = p + 2 by omega, h2, show q + 2 + 1 = q + 3 by omega, show p + 2 + 1 = p + 3 by omega, h3]
            simp
            omega
          · simp only [h0, h1, if_true, show q + 1 + 1 = q + 2 by omega, show p + 1 + 1 = p + 2 by omega, h2, show q + 2 + 1 = q + 3 by omega, show p + 2 + 1 = p + 3 by omega, h3, if_false]
            simp
        · simp only [h0, h1, if_true, show q + 1 + 1 = q + 2 by omega, show p + 1 + 1 = p + 2 by omega, h2, if_false]
          simp
      · simp only [h0, h1, if_true, if_false]
        simp
    · simp only [h0, if_false]
      simp
/-- The candidates up to j places back, none in too little room. -/
def backE (s : ByteArray) (p e j : Nat) : List Nat := if e - p < 4 then [] else back s p j
theorem backE_zero (s : ByteArray) (p e : Nat) : backE s p e 0 = [] := by unfold backE; split <;> rfl
theorem backE_succ (s : ByteArray) (p e j : Nat) (h : j < p) : backE s p e (j + 1) = backE s p e j ++ (if 4 ≤ cmn s (e - p) (p - (j + 1)) p then [p - (j + 1)] else []) := by
  unfold backE
  by_cases he : e - p < 4
  · rw [if_pos he, if_pos he, if_neg (by rw [cmn_four]; omega)]
    rfl
  · rw [if_neg he, if_neg he, back_succ s p j h]
    congr 1
    by_cases hf : fours s (p - (j + 1)) = fours s p
    · rw [if_pos hf, if_pos ((cmn_four _ _ _ _).2 ⟨by omega, hf⟩)]
    · rw [if_neg hf, if_neg (fun h2 => hf ((cmn_four _ _ _ _).1 h2).2)]
theorem backE_more (s : ByteArray) (p e k : Nat) : ∀ m, k + m ≤ p → ∃ r, backE s p e (k + m) = backE s p e k ++ r := by
  intro m hm
  unfold backE
  split
  · exact ⟨[], rfl⟩
  · exact back_more s p k m hm
theorem cands_all (s : ByteArray) (p e m : Nat) (h : p ≤ 1024) : cands s p e 10 m = (backE s p e p).take m := by
  have hw : wback p 10 = p := by unfold wback; omega
  unfold cands backE back
  rw [hw]
  split
  · simp
  · simp
theorem back_len_le (s : ByteArray) (p j : Nat) : (back s p j).length ≤ j := by
  unfold back plc
  rw [List.length_reverse]
  exact Nat.le_trans (List.length_filter_le _ _) (by simp)
/-- The candidates found so far are the first ones. -/
theorem backE_get (s : ByteArray) (p e j : Nat) (h : j < p) (hc : 4 ≤ cmn s (e - p) (p - (j + 1)) p) : (backE s p e p)[(backE s p e j).length]? = some (p - (j + 1)) := by
  obtain ⟨r, hr⟩ := backE_more s p e (j + 1) (p - (j + 1)) (by omega)
  rw [show j + 1 + (p - (j + 1)) = p by omega, backE_succ s p e j h, if_pos hc] at hr
  rw [hr]
  simp
/-! Bytes -/
theorem byt_eq (s : ByteArray) (i : Nat) : byt s i = (s.data.toList.getD i 0).toNat := by
  unfold byt
  by_cases h : i < s.size
  · rw [dif_pos h]
    have h2 : i < s.data.toList.length := by simpa using h
    rw [List.getD_eq_getElem?_getD, List.getElem?_eq_getElem h2]
    rfl
  · rw [dif_neg h]
    have h2 : ¬ i < s.data.toList.length := by simpa using h
    rw [List.getD_eq_getElem?_getD, List.getElem?_eq_none (by omega)]
    rfl
theorem fours_of {s t : ByteArray} {q p : Nat} (h : ∀ i, i < 4 → byt s (q + i) = byt t (p + i)) : fours s q = fours t p := by
  unfold fours
  have h0 := h 0 (by omega)
  rw [Nat.add_zero, Nat.add_zero] at h0
  rw [h0, h 1 (by omega), h 2 (by omega), h 3 (by omega)]
theorem plc_shift (s t : ByteArray) (d p a n : Nat) (hp : fours t (d + p) = fours s p) (h : ∀ q, a ≤ q → q < a + n → fours t (d + q) = fours s q) : plc t (d + p) (d + a) n = (plc s p a n).map (d + ·) := by
  unfold plc
  rw [← List.map_add_range', List.filter_map]
  congr 1
  apply List.filter_congr
  intro q hq
  rw [List.mem_range'] at hq
  obtain ⟨i, hi, rfl⟩ := hq
  have := h (a + 1 * i) (by omega) (by omega)
  simp only [Function.comp, this, hp]
theorem plc_app (s : ByteArray) (p a n m : Nat) : plc s p a (n + m) = plc s p a n ++ plc s p (a + n) m := by
  unfold plc
  rw [← List.filter_append]
  congr 1
  have := List.range'_append (s := a) (m := n) (n := m) (step := 1)
  rw [Nat.one_mul] at this
  exact this.symm
/-- What stands at the end or behind it does not matter. -/
theorem backE_cut (s t : ByteArray) (p e : Nat) (h : ∀ i, i < e → byt t i = byt s i) : backE t p e p = backE s p e p := by
  unfold backE
  by_cases he : e - p < 4
  · rw [if_pos he, if_pos he]
  · rw [if_neg he, if_neg he]
    unfold back
    congr 1
    have := plc_shift s t 0 p (p - p) p (by
      rw [Nat.zero_add]
      exact fours_of fun i hi => h _ (by omega)) (fun q _ hq => by
      rw [Nat.zero_add]
      exact fours_of fun i hi => h _ (by omega))
    rw [Nat.zero_add, Nat.zero_add] at this
    rw [this]
    simp
/-- Bytes before move all candidates. -/
theorem backE_far (s t : ByteArray) (d p e : Nat) (h : ∀ i, i < e → byt t (d + i) = byt s i) : ∃ r, backE t (d + p) (d + e) (d + p) = (backE s p e p).map (d + ·) ++ r ∧ ∀ x ∈ r, x < d := by
  unfold backE
  by_cases he : e - p < 4
  · rw [if_pos he, if_pos (by omega)]
    exact ⟨[], rfl, by simp⟩
  · rw [if_neg he, if_neg (by omega)]
    unfold back
    rw [Nat.sub_self, Nat.sub_self, plc_app, Nat.zero_add, List.reverse_append]
    have := plc_shift s t d p 0 p (fours_of fun i hi => by rw [show d + p + i = d + (p + i) by omega]; exact h _ (by omega)) (fun q _ hq => fours_of fun i hi => by rw [show d + q + i = d + (q + i) by omega]; exact h _ (by omega))
    rw [Nat.add_zero] at this
    rw [this]
    refine ⟨_, by rw [← List.map_reverse], fun x hx => ?_⟩
    rw [List.mem_reverse] at hx
    unfold plc at hx
    have := (List.mem_filter.1 hx).1
    rw [List.mem_range'] at this
    omega
/-- The nearest candidate where all bytes are the same. -/
theorem near_same (s : ByteArray) (p e : Nat) (h : ∀ i, i < e → byt s i = byt s 0) (hp : 0 < p) (he : 4 ≤ e - p) (hp2 : p ≤ 1024) : cands s p e 10 1 = [p - 1] := by
  rw [cands_all s p e 1 hp2]
  obtain ⟨r, hr⟩ := backE_more s p e 1 (p - 1) (by omega)
  rw [show 1 + (p - 1) = p by omega, backE_succ s p e 0 hp, backE_zero, if_pos ((cmn_four _ _ _ _).2 ⟨he, fours_of fun i hi => by rw [h _ (by omega), h (p + i) (by omega)]⟩)] at hr
  rw [hr]
  simp
end Go.Proofs.YtmblpmaelglnpaaDoor
