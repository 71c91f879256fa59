/-
  Two appends in one drawn region: what holds between its operations. No program in sight.
-/
import Derived.Test.YtmfgkimbehkdeaaHufKnown
import Derived.Test.YtmfgkimbehkdeaaAnyInv
namespace Go.Proofs.Ytmfgkimbehkdeaa
open Go.RowKit
set_option linter.unusedSimpArgs false
set_option linter.unusedVariables false
theorem wpAny_fuel {P : Program} {md : Region.Mode} {ops : Array Oper} {Q : Exit → Act → World → Prop} {m n : Nat} {listed : Array Bool} {a : Act} {w : World} (h : m = n) (h2 : wpAny P md ops Q n listed a w) : wpAny P md ops Q m listed a w := h ▸ h2
theorem set_getD_self (a : Array Value) (i : Nat) (d : Value) : a.setIfInBounds i (a.getD i d) = a := by
  apply Array.ext
  · simp
  · intro j h1 h2
    rw [Array.getElem_setIfInBounds]
    split
    · rename_i e
      subst e
      simp [Array.getD_eq_getD_getElem?]
      simp at h1
      rw [Array.getElem?_eq_getElem h1]
      rfl
    · rfl
/-- The frame with six slots filled. -/
def pt26 (A0 : Act) (v2 v3 v8 v9 v10 v11 : Value) : Act := { A0 with tmps := (((((A0.tmps.setIfInBounds 142 v2).setIfInBounds 143 v3).setIfInBounds 148 v8).setIfInBounds 149 v9).setIfInBounds 150 v10).setIfInBounds 151 v11 }
theorem pt26_self (A0 : Act) : ∃ v2 v3 v8 v9 v10 v11, A0 = pt26 A0 v2 v3 v8 v9 v10 v11 := by
  refine ⟨A0.tmps.getD 142 undef, A0.tmps.getD 143 undef, A0.tmps.getD 148 undef, A0.tmps.getD 149 undef, A0.tmps.getD 150 undef, A0.tmps.getD 151 undef, ?_⟩
  unfold pt26
  rw [set_getD_self, set_getD_self, set_getD_self, set_getD_self, set_getD_self, set_getD_self]
theorem getD_set_ne (a : Array Value) (i k : Nat) (v d : Value) (h : i ≠ k) : (a.setIfInBounds i v).getD k d = a.getD k d := by
  rw [Array.getD_eq_getD_getElem?, Array.getD_eq_getD_getElem?, Array.getElem?_setIfInBounds_ne h]
theorem getD_set_eq (a : Array Value) (i : Nat) (v d : Value) (h : i < a.size) : (a.setIfInBounds i v).getD i d = v := by
  rw [Array.getD_eq_getD_getElem?, Array.getElem?_setIfInBounds_self_of_lt h]
  rfl
theorem pt26_140 (A0 : Act) (v2 v3 v8 v9 v10 v11 : Value) : (pt26 A0 v2 v3 v8 v9 v10 v11).tmps.getD 140 undef = A0.tmps.getD 140 undef := by
  unfold pt26
  dsimp only
  rw [getD_set_ne _ _ _ _ _ (by decide), getD_set_ne _ _ _ _ _ (by decide), getD_set_ne _ _ _ _ _ (by decide), getD_set_ne _ _ _ _ _ (by decide), getD_set_ne _ _ _ _ _ (by decide), getD_set_ne _ _ _ _ _ (by decide)]
theorem pt26_144 (A0 : Act) (v2 v3 v8 v9 v10 v11 : Value) : (pt26 A0 v2 v3 v8 v9 v10 v11).tmps.getD 144 undef = A0.tmps.getD 144 undef := by
  unfold pt26
  dsimp only
  rw [getD_set_ne _ _ _ _ _ (by decide), getD_set_ne _ _ _ _ _ (by decide), getD_set_ne _ _ _ _ _ (by decide), getD_set_ne _ _ _ _ _ (by decide), getD_set_ne _ _ _ _ _ (by decide), getD_set_ne _ _ _ _ _ (by decide)]
theorem pt26_142 (A0 : Act) (v2 v3 v8 v9 v10 v11 : Value) (h : 151 < A0.tmps.size) : (pt26 A0 v2 v3 v8 v9 v10 v11).tmps.getD 142 undef = v2 := by
  unfold pt26
  dsimp only
  rw [getD_set_ne _ _ _ _ _ (by decide), getD_set_ne _ _ _ _ _ (by decide), getD_set_ne _ _ _ _ _ (by decide), getD_set_ne _ _ _ _ _ (by decide), getD_set_ne _ _ _ _ _ (by decide), getD_set_eq _ _ _ _ (by omega)]
theorem pt26_150 (A0 : Act) (v2 v3 v8 v9 v10 v11 : Value) (h : 151 < A0.tmps.size) : (pt26 A0 v2 v3 v8 v9 v10 v11).tmps.getD 150 undef = v10 := by
  unfold pt26
  dsimp only
  rw [getD_set_ne _ _ _ _ _ (by decide), getD_set_eq _ _ _ _ (by simp; omega)]
theorem eval_tmp (A : Act) (i : Nat) : A.eval (.tmp i) = A.tmps.getD i undef := rfl
theorem pt26_e140 (A0 : Act) (v2 v3 v8 v9 v10 v11 v : Value) (h : A0.eval (.tmp 140) = v) : (pt26 A0 v2 v3 v8 v9 v10 v11).eval (.tmp 140) = v := by
  rw [eval_tmp, pt26_140]
  exact h
theorem pt26_e144 (A0 : Act) (v2 v3 v8 v9 v10 v11 v : Value) (h : A0.eval (.tmp 144) = v) : (pt26 A0 v2 v3 v8 v9 v10 v11).eval (.tmp 144) = v := by
  rw [eval_tmp, pt26_144]
  exact h
theorem pt26_e142 (A0 : Act) (v2 v3 v8 v9 v10 v11 : Value) (h : 151 < A0.tmps.size) : (pt26 A0 v2 v3 v8 v9 v10 v11).eval (.tmp 142) = v2 := by
  rw [eval_tmp, pt26_142 _ _ _ _ _ _ _ h]
theorem pt26_e150 (A0 : Act) (v2 v3 v8 v9 v10 v11 : Value) (h : 151 < A0.tmps.size) : (pt26 A0 v2 v3 v8 v9 v10 v11).eval (.tmp 150) = v10 := by
  rw [eval_tmp, pt26_150 _ _ _ _ _ _ _ h]
theorem arr143 (a : Array Value) (v2 v3 v8 v9 v10 v11 v : Value) : ((((((a.setIfInBounds 142 v2).setIfInBounds 143 v3).setIfInBounds 148 v8).setIfInBounds 149 v9).setIfInBounds 150 v10).setIfInBounds 151 v11).setIfInBounds 143 v = (((((a.setIfInBounds 142 v2).setIfInBounds 143 v).setIfInBounds 148 v8).setIfInBounds 149 v9).setIfInBounds 150 v10).setIfInBounds 151 v11 := by
  rw [Array.setIfInBounds_comm (i := 151) (j := 143) _ _ (by decide), Array.setIfInBounds_comm (i := 150) (j := 143) _ _ (by decide), Array.setIfInBounds_comm (i := 149) (j := 143) _ _ (by decide), Array.setIfInBounds_comm (i := 148) (j := 143) _ _ (by decide), Array.setIfInBounds_setIfInBounds]
theorem put_some (A : Act) (i : Nat) (v : Value) : A.put (some i) v = { A with tmps := A.tmps.setIfInBounds i v } := rfl
theorem pt26_put143 (A0 : Act) (v2 v3 v8 v9 v10 v11 v : Value) : (pt26 A0 v2 v3 v8 v9 v10 v11).put (some 143) v = pt26 A0 v2 v v8 v9 v10 v11 := by
  rw [put_some]
  unfold pt26
  dsimp only
  rw [arr143]
theorem pt26_put151 (A0 : Act) (v2 v3 v8 v9 v10 v11 v : Value) : (pt26 A0 v2 v3 v8 v9 v10 v11).put (some 151) v = pt26 A0 v2 v3 v8 v9 v10 v := by
  rw [put_some]
  unfold pt26
  dsimp only
  rw [Array.setIfInBounds_setIfInBounds]
theorem Two.drew {B : Nat} {v u : Value} {n m : Nat} {ps qs : List Value} {w : World} (h : Two B v u n m ps qs w) : Two B v u n m ps qs w.drew :=
  ⟨ownsRow_later h.own1 (Below.refl _ _).drew, ownsRow_later h.own2 (Below.refl _ _).drew, h.sep⟩
theorem Two.later {B : Nat} {v u : Value} {n m : Nat} {ps qs : List Value} {w w' : World} (h : Two B v u n m ps qs w) (hb : Below w.heap.size w w') : Two B v u n m ps qs w' :=
  ⟨ownsRow_later h.own1 hb, ownsRow_later h.own2 hb, h.sep⟩
theorem Two.alloc {B : Nat} {v u : Value} {n m : Nat} {ps qs : List Value} {w : World} (h : Two B v u n m ps qs w) (o : Obj) : Two B v u n m ps qs (w.alloc o) :=
  ⟨h.own1.alloc o, h.own2.alloc o, h.sep⟩
/-- An append to the first one. -/
theorem Two.app {B : Nat} {v u v1 : Value} {n m n1 : Nat} {ps qs ps1 : List Value} {w w1 : World} (h : Two B v u n m ps qs w) (h1 : w1.ownsRow B 3 1 v1 n1 ps1) (hg : w.grownBy w1 v.ownBlock) (hat : v1.ownBlock = v.ownBlock ∨ v1.ownBlock = some w.heap.size) : Two B v1 u n1 m ps1 qs w1 := by
  refine ⟨h1, h.own2.kept hg ?_, ?_⟩
  · rcases h.sep with h | h | h
    · by_cases hu : u.ownBlock = none
      · exact .inl hu
      · exact .inr (fun e => hu (e.trans h))
    · exact .inl h
    · exact .inr (fun e => h e.symm)
  · rcases hat with e | e
    · rw [e]; exact h.sep
    · right
      by_cases hu : u.ownBlock = none
      · exact .inl hu
      · right
        intro h2
        obtain ⟨g, hg2⟩ := Option.ne_none_iff_exists'.1 hu
        have := own_lt2 h.own2 g hg2
        rw [e, hg2] at h2
        simp at h2
        omega
/-- A cell that was built and is not appended yet: it lies apart from both rows. -/
structure Pend (v u : Value) (A : Nat) (x : Int) (w : World) : Prop where
  cell : w.cell? ⟨A, 0, none⟩ = some (.int .i64 x)
  off1 : v.ownBlock ≠ some A
  off2 : u.ownBlock ≠ some A
theorem Pend.alloc {v u : Value} {A : Nat} {x : Int} {w : World} (h : Pend v u A x w) (o : Obj) : Pend v u A x (w.alloc o) := by
  have hl := World.block_lt_of_cell? w _ h.cell
  exact ⟨(((Below.refl _ w).alloc (Nat.le_refl _) o).cell (p := ⟨A, 0, none⟩) hl).trans h.cell, h.off1, h.off2⟩
theorem Pend.new {B : Nat} {v u : Value} {n m : Nat} {ps qs : List Value} {x : Int} {w : World} (h : Two B v u n m ps qs w) : Pend v u w.heap.size x (w.alloc (.cells #[.int .i64 x] 3)) := by
  refine ⟨?_, fun e => ?_, fun e => ?_⟩
  · have := heap_alloc_new w (.cells #[.int .i64 x] 3)
    unfold World.cell?
    dsimp only
    rw [this]
    rfl
  · have := own_lt2 h.own1 _ e
    omega
  · have := own_lt2 h.own2 _ e
    omega
/-- The other one is appended to. -/
theorem Pend.app {v u u1 : Value} {A : Nat} {x : Int} {w w1 : World} (h : Pend v u A x w) (hg : w.grownBy w1 u.ownBlock) (hat : u1.ownBlock = u.ownBlock ∨ u1.ownBlock = some w.heap.size) : Pend v u1 A x w1 := by
  have hl := World.block_lt_of_cell? w _ h.cell
  dsimp only at hl
  refine ⟨hg.cell h.cell (fun e => h.off2 e.symm), h.off1, ?_⟩
  rcases hat with e | e
  · rw [e]; exact h.off2
  · rw [e]
    intro h2
    simp at h2
    omega
theorem Pend.swap {v u : Value} {A : Nat} {x : Int} {w : World} (h : Pend v u A x w) : Pend u v A x w := ⟨h.cell, h.off2, h.off1⟩
theorem Pend.drew {v u : Value} {A : Nat} {x : Int} {w : World} (h : Pend v u A x w) : Pend v u A x w.drew := by
  have hl := World.block_lt_of_cell? w _ h.cell
  exact ⟨((Below.refl _ w).drew.cell (p := ⟨A, 0, none⟩) hl).trans h.cell, h.off1, h.off2⟩
theorem Pend.news {v u : Value} {A : Nat} {x : Int} {w : World} (h : Pend v u A x w) : ∀ (j : Nat) (z : Value), [Value.int .i64 x][j]? = some z → w.cell? ((⟨A, 0, none⟩ : Addr).add (j : Nat)) = some z := by
  intro j z hj
  have : j = 0 := by
    have := (List.getElem?_eq_some_iff.1 hj).1
    simpa using this
  subst this
  simp at hj
  subst hj
  have := h.cell
  simpa [Addr.add_lit] using this
/-- What holds between the operations. -/
structure St26 (B : Nat) (vo ve : Value) (i : Nat) (ps qs : List Value) (x y c : Int) (b2 b3 b8 b9 b10 b11 : Bool) (v2 v3 v8 v9 v10 v11 : Value) (A2 A10 : Nat) (w : World) : Prop where
  two : Two B (cond b3 v3 vo) (cond b11 v11 ve) (cond b3 (i + 1) i) (cond b11 (i + 1) i) (cond b3 (ps ++ [.int .i64 x]) ps) (cond b11 (qs ++ [.int .i64 y]) qs) w
  h2 : b2 = true → v2 = .slice (some ⟨A2, 0, none⟩) 1 1
  p2 : b2 = true → b3 = false → Pend vo (cond b11 v11 ve) A2 x w
  h8 : b8 = true → v8 = .int .i64 c
  h9 : b9 = true → v9 = .int .i64 y
  h10 : b10 = true → v10 = .slice (some ⟨A10, 0, none⟩) 1 1
  p10 : b10 = true → b11 = false → Pend ve (cond b3 v3 vo) A10 y w
section
variable {B : Nat} {vo ve : Value} {i : Nat} {ps qs : List Value} {x y c : Int} {b2 b3 b8 b9 b10 b11 : Bool} {v2 v3 v8 v9 v10 v11 : Value} {A2 A10 : Nat} {w : World}
theorem St26.start (h : Two B vo ve i i ps qs w) : St26 B vo ve i ps qs x y c false false false false false false v2 v3 v8 v9 v10 v11 A2 A10 w :=
  ⟨h, fun h => by simp at h, fun h => by simp at h, fun h => by simp at h, fun h => by simp at h, fun h => by simp at h, fun h => by simp at h⟩
theorem St26.do2 (h : St26 B vo ve i ps qs x y c false false b8 b9 b10 b11 v2 v3 v8 v9 v10 v11 A2 A10 w) : St26 B vo ve i ps qs x y c true false b8 b9 b10 b11 (.slice (some ⟨w.heap.size, 0, none⟩) 1 1) v3 v8 v9 v10 v11 w.heap.size A10 (w.alloc (.cells #[.int .i64 x] 3)) :=
  ⟨h.two.alloc _, fun _ => rfl, fun _ _ => Pend.new h.two, h.h8, h.h9, h.h10, fun e1 e2 => (h.p10 e1 e2).alloc _⟩
theorem St26.do10 (h : St26 B vo ve i ps qs x y c b2 b3 b8 b9 false false v2 v3 v8 v9 v10 v11 A2 A10 w) : St26 B vo ve i ps qs x y c b2 b3 b8 b9 true false v2 v3 v8 v9 (.slice (some ⟨w.heap.size, 0, none⟩) 1 1) v11 A2 w.heap.size (w.alloc (.cells #[.int .i64 y] 3)) :=
  ⟨h.two.alloc _, h.h2, fun e1 e2 => (h.p2 e1 e2).alloc _, h.h8, h.h9, fun _ => rfl, fun _ _ => Pend.new h.two.swap⟩
theorem St26.do8 (h : St26 B vo ve i ps qs x y c b2 b3 false b9 b10 b11 v2 v3 v8 v9 v10 v11 A2 A10 w) : St26 B vo ve i ps qs x y c b2 b3 true b9 b10 b11 v2 v3 (.int .i64 c) v9 v10 v11 A2 A10 w :=
  ⟨h.two, h.h2, h.p2, fun _ => rfl, h.h9, h.h10, h.p10⟩
theorem St26.do9 (h : St26 B vo ve i ps qs x y c b2 b3 b8 false b10 b11 v2 v3 v8 v9 v10 v11 A2 A10 w) : St26 B vo ve i ps qs x y c b2 b3 b8 true b10 b11 v2 v3 v8 (.int .i64 y) v10 v11 A2 A10 w :=
  ⟨h.two, h.h2, h.p2, h.h8, fun _ => rfl, h.h10, h.p10⟩
theorem St26.do3 {w1 : World} {v : Value} (h : St26 B vo ve i ps qs x y c b2 false b8 b9 b10 b11 v2 v3 v8 v9 v10 v11 A2 A10 w) (h1 : w1.ownsRow B 3 1 v (i + 1) (ps ++ [.int .i64 x])) (hg : w.grownBy w1 vo.ownBlock) (hat : v.ownBlock = vo.ownBlock ∨ v.ownBlock = some w.heap.size) :
    St26 B vo ve i ps qs x y c b2 true b8 b9 b10 b11 v2 v v8 v9 v10 v11 A2 A10 w1 :=
  ⟨h.two.app h1 hg hat, h.h2, fun _ e => by simp at e, h.h8, h.h9, h.h10, fun e1 e2 => (h.p10 e1 e2).app hg hat⟩
theorem St26.do11 {w1 : World} {v : Value} (h : St26 B vo ve i ps qs x y c b2 b3 b8 b9 b10 false v2 v3 v8 v9 v10 v11 A2 A10 w) (h1 : w1.ownsRow B 3 1 v (i + 1) (qs ++ [.int .i64 y])) (hg : w.grownBy w1 ve.ownBlock) (hat : v.ownBlock = ve.ownBlock ∨ v.ownBlock = some w.heap.size) :
    St26 B vo ve i ps qs x y c b2 b3 b8 b9 b10 true v2 v3 v8 v9 v10 v A2 A10 w1 :=
  ⟨(h.two.swap.app h1 hg hat).swap, h.h2, fun e1 e2 => (h.p2 e1 e2).app hg hat, h.h8, h.h9, h.h10, fun _ e => by simp at e⟩
end
end Go.Proofs.Ytmfgkimbehkdeaa
