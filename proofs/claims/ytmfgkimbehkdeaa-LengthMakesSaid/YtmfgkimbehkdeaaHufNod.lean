/-
  The reference's nodes in rows of memory, and what taking one away leaves. No program in sight.
-/
import Derived.Test.YtmfgkimbehkdeaaHufRBef
import Derived.Test.YtmfgkimbehkdeaaHufDep
namespace Go.Proofs.Ytmfgkimbehkdeaa
open Go.RowKit
set_option linter.unusedSimpArgs false
set_option linter.unusedVariables false
/-- append of a slice, nil or not, in a region that draws its order. -/
theorem step_append_any {P : Program} {w : World} {ops : Array Oper} {o : Oper} {act : Act} {K : Act → World → Prop} {Q : Exit → Act → World → Prop} {E : Prop} (hgd : o.guard = none) (s x : Operand) (t : TypeId)
    (ho : o.op = .call { callee := .builtin .append, args := #[s, x], argTypes := #[t, t] })
    (base : Nat) (e : TypeId) (i : TypeInfo) (z : Value) (size bytes : Nat) (ht : P.underlying t = some (.slice e)) (hi : P.info? e = some i) (hz : i.zero = some z)
    (hsize : i.size = size) (hby : i.bytes = bytes) (hzs : z.cells.size = size) (hsz : 0 < size) (v : Value) (n : Nat) (xs : List Value) (hs : act.eval s = v) (hown : w.ownsRow base e size v n xs)
    (a : Option Addr) (m c : Nat) (news : List Value) (hx : act.eval x = .slice a m c) (hl : news.length = m * size) (hrow : RowV w a news) (h1 : ∀ u ∈ news, u.oneCell' = true)
    (h63 : n + m ≤ maxLen) (hbytes : (n + m) * bytes ≤ 140737488355328) (hbase : base ≤ w.heap.size) (hv : v ≠ .slice none 0 0)
    (h : ∀ v' w', w'.ownsRow base e size v' (n + m) (xs ++ news) → w.grownBy w' v.ownBlock → v' ≠ .slice none 0 0 → K (act.put o.dst v') w') :
    if Region.wanted o (yielded ops act.tmps) = true then Oper.wp P o act w K Q else E := by
  have hw : Region.wanted o (yielded ops act.tmps) = true := by simp [Region.wanted, hgd]
  rw [if_pos hw]
  obtain ⟨v', w', hr, h2, h3, h4⟩ := run_append_any2 (P := P) w base t o.type e i z size bytes ht hi hz hsize hby hzs hsz v n xs hown a m c news hl hrow h1 h63 hbytes hbase hv
  unfold Oper.wp execOp
  simp only [ho, resolve, invoke, builtin, Sem.run_bind, Sem.run_pure, Result.andThen_ok, List.map_toArray, List.map_cons, List.map_nil, hs, hx, hr]
  exact h _ _ h2 h3 h4
/-- A node of the reference: a tree, and where its symbols lie. -/
structure RN where
  t : HT
  p : Option Addr
  c : Nat
def RN.cells (x : RN) : List Value := [.int .i64 (x.t.cnt : Int), .bool x.t.isLeaf, .int .i64 (x.t.num : Int), .slice x.p x.t.syms.length x.c]
def flatN (l : List RN) : List Value := l.flatMap RN.cells
theorem flatN_length (l : List RN) : (flatN l).length = l.length * 4 := by
  induction l with
  | nil => rfl
  | cons x l ih =>
    unfold flatN at ih ⊢
    rw [List.flatMap_cons, List.length_append, ih]
    simp [RN.cells]
    omega
theorem flatN_append (l m : List RN) : flatN (l ++ m) = flatN l ++ flatN m := by simp [flatN]
theorem flatN_at : ∀ {l : List RN} {i : Nat} {x : RN}, l[i]? = some x → ∀ j, j < 4 → (flatN l)[i * 4 + j]? = x.cells[j]? := by
  intro l
  induction l with
  | nil => intro i x h; simp at h
  | cons y l ih =>
    intro i x h j hj
    unfold flatN at ih ⊢
    rw [List.flatMap_cons]
    cases i with
    | zero =>
      simp at h
      subst h
      rw [List.getElem?_append_left (by simp [RN.cells]; omega)]
      simp
    | succ i =>
      rw [List.getElem?_append_right (by simp [RN.cells]; omega)]
      rw [← ih (i := i) (x := x) (by simpa using h) j hj]
      congr 1
      simp [RN.cells]
      omega
/-- The symbols of each node lie where it says. -/
def Syms (w : World) (l : List RN) : Prop := ∀ x ∈ l, Row .i64 w x.p (ints x.t.syms)
theorem Syms.later {w w' : World} {l : List RN} (h : Syms w l) (hb : Below w.heap.size w w') : Syms w' l := fun x hx => (h x hx).later hb
theorem Syms.perm {w : World} {l m : List RN} (h : Syms w l) (p : l.Perm m) : Syms w m := fun x hx => h x (p.mem_iff.2 hx)
/-- Trees of a forest: the joined ones have an age. -/
def AgedL (l : List RN) : Prop := ∀ x ∈ l, Aged x.t
theorem rbI_rbef (x y : HT) : rbI (x.cnt : Int) x.isLeaf (x.num : Int) (y.cnt : Int) y.isLeaf (y.num : Int) = rbef x y := by
  unfold rbI rbef
  by_cases hc : x.cnt = y.cnt
  · have h1 : ¬ ((x.cnt : Int) ≠ (y.cnt : Int)) := fun h => h (by rw [hc])
    have h2 : ¬ (x.cnt ≠ y.cnt) := fun h => h hc
    rw [if_neg h1, if_neg h2]
    by_cases hl : x.isLeaf = y.isLeaf
    · have h3 : ¬ (x.isLeaf ≠ y.isLeaf) := fun h => h hl
      rw [if_neg h3, if_neg h3, decide_eq_decide]
      omega
    · rw [if_pos hl, if_pos hl]
  · have h1 : (x.cnt : Int) ≠ (y.cnt : Int) := by omega
    rw [if_pos h1, if_pos hc, decide_eq_decide]
    omega
theorem erase_perm {l : List RN} {b : Nat} {x : RN} (h : l[b]? = some x) : (x :: (l.take b ++ l.drop (b + 1))).Perm l := by
  obtain ⟨hb, rfl⟩ := List.getElem?_eq_some_iff.1 h
  have e : l = l.take b ++ l[b] :: l.drop (b + 1) := by
    conv => lhs; rw [← List.take_append_drop b l, List.drop_eq_getElem_cons hb]
  conv => rhs; rw [e]
  exact List.perm_middle.symm
end Go.Proofs.Ytmfgkimbehkdeaa
