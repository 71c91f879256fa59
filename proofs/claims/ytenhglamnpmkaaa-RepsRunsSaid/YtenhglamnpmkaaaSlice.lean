/-
  Slices of integers that are read: what a walk is told of them, and that it lasts. And the comparison of two lists, walked.
-/
import Derived.Test.YtenhglamnpmkaaaRows
import Derived.Test.YtenhglamnpmkaaaCommon
import Derived.Deep.Light
namespace Go.Proofs.Ytenhglamnpmkaaa
open Go.RowKit
set_option linter.unusedSimpArgs false
set_option linter.unusedVariables false
/-- The slice's address leads to a row whose first cells are these integers (nothing is said of the address of an empty list). -/
def Row (k : IntKind) (w : World) (a : Option Addr) (xs : List Int) : Prop :=
  xs = [] ∨ ∃ b off, a = some ⟨b, off, none⟩ ∧ b < w.heap.size ∧ ∀ i, i < xs.length → w.cell? ⟨b, off + i, none⟩ = some (.int k (xs.getD i 0))
theorem Row.nil (k : IntKind) (w : World) (a : Option Addr) : Row k w a [] := .inl rfl
theorem Row.later {k : IntKind} {w w' : World} {a : Option Addr} {xs : List Int} (h : Row k w a xs) (hb : Below w.heap.size w w') : Row k w' a xs := by
  rcases h with h | ⟨b, off, ha, hlt, hc⟩
  · exact .inl h
  · exact .inr ⟨b, off, ha, Nat.lt_of_lt_of_le hlt hb.size, fun i hi => (hb.cell (p := ⟨b, off + i, none⟩) hlt).trans (hc i hi)⟩
theorem Row.drewN {k : IntKind} {w : World} {a : Option Addr} {xs : List Int} (h : Row k w a xs) (n : Nat) : Row k (w.drewN n) a xs := h.later (below_drewN (Below.refl _ _) n)
theorem Row.at {k : IntKind} {w : World} {a : Option Addr} {xs : List Int} (h : Row k w a xs) {i : Nat} (hi : i < xs.length) :
    ∃ b off, a = some ⟨b, off, none⟩ ∧ b < w.heap.size ∧ ∀ i, i < xs.length → w.cell? ⟨b, off + i, none⟩ = some (.int k (xs.getD i 0)) := by
  rcases h with h | h
  · subst h; simp at hi
  · exact h
/-- What is owned stays owned where nothing below has turned. -/
theorem ownsRow_later {w w' : World} {base : Nat} {e : TypeId} {size : Nat} {v : Value} {n : Nat} {xs : List Value} (h : w.ownsRow base e size v n xs) (hb : Below w.heap.size w w') : w'.ownsRow base e size v n xs := by
  obtain ⟨h1, h2⟩ := h
  refine ⟨h1, ?_⟩
  rcases h2 with h2 | ⟨g, cap, cur, hv, hg, hh, r⟩
  · exact .inl h2
  · exact .inr ⟨g, cap, cur, hv, hg, by rw [hb.block g (Array.getElem?_eq_some_iff.1 hh).1]; exact hh, r⟩
/-- What an owned row is, as a row that is read. -/
theorem Row.of_own {k : IntKind} {w : World} {base : Nat} {e : TypeId} {v : Value} {n : Nat} {xs : List Int} (h : w.ownsRow base e 1 v n (xs.map (Value.int k))) :
    ∃ a cap, v = .slice a xs.length cap ∧ n = xs.length ∧ Row k w a xs := by
  obtain ⟨hl, h⟩ := h
  simp at hl
  rcases h with ⟨rfl, rfl⟩ | ⟨g, cap, cur, rfl, hg, hh, hn, hm, hs, ht⟩
  · have : xs = [] := by simpa using hl
    subst this
    exact ⟨none, 0, rfl, rfl, .inl rfl⟩
  · refine ⟨_, cap, by rw [hl], hl.symm, .inr ⟨g, 0, rfl, (Array.getElem?_eq_some_iff.1 hh).1, fun i hi => ?_⟩⟩
    have h1 : w.cell? ⟨g, 0 + i, none⟩ = cur[i]? := by simp [World.cell?, hh]
    rw [h1, ← Array.getElem?_toList]
    have h2 : (cur.toList.take (n * 1))[i]? = cur.toList[i]? := by rw [List.getElem?_take]; rw [if_pos (by omega)]
    rw [← h2, ht]
    simp [hi]
theorem Row.of_own_slice {k : IntKind} {w : World} {base : Nat} {e : TypeId} {a : Option Addr} {n m cap : Nat} {xs : List Int} (h : w.ownsRow base e 1 (.slice a m cap) n (xs.map (Value.int k))) : Row k w a xs := by
  obtain ⟨a', cap', hv, _, hr⟩ := Row.of_own h
  cases hv
  exact hr
/-- Equal so far. -/
theorem take_succ_eq {xs ys : List Int} {k : Nat} (h : xs.take k = ys.take k) (hx : k < xs.length) (hy : k < ys.length) (he : xs.getD k 0 = ys.getD k 0) : xs.take (k + 1) = ys.take (k + 1) := by
  rw [List.take_succ_eq_append_getElem hx, List.take_succ_eq_append_getElem hy, h]
  simp [hx, hy] at he
  rw [he]
set_option maxHeartbeats 1000000 in
theorem sameInts_k (a b : Option Addr) (xs ys : List Int) (ca cb : Nat) (w : World) (ha : Row .i64 w a xs) (hb : Row .i64 w b ys) (hl : xs.length ≤ 9223372036854775807) :
    Calls Try.prog 32 #[.slice a xs.length ca, .slice b ys.length cb] w fun e w' => e = .returned (.bool (decide (xs = ys))) ∧ Below w.heap.size w w' := by
  by_cases hn : xs.length = ys.length
  · go_enter Try.func32, Try.ntmps32
    have HN := Lib.hid hn
    have hn1 : ((xs.length : Int) != (ys.length : Int)) = false := by rw [hn]; simp
    have hn2 : ys.length ≤ 9223372036854775807 := by omega
    clear hn
    go_wp2
    clear hn1
    go_loopw [5] (fun i wr => ∃ k : Nat, k ≤ xs.length ∧ i = .int .i64 k ∧ Hid (xs.take k = ys.take k) ∧ Below w.heap.size w wr) (fun i _ => xs.length - (intOf i).toNat)
    case atStart => exact ⟨0, by omega, rfl, rfl, Below.refl _ _⟩
    case round =>
      obtain ⟨k, hk, rfl, HQ, hbw⟩ := hrel
      by_cases hlt : k < xs.length
      · have hlt2 : k < ys.length := by have := HN.out; omega
        obtain ⟨b1, o1, rfl, hb1, hc1⟩ := (ha.later hbw).at hlt
        obtain ⟨b2, o2, rfl, hb2, hc2⟩ := (hb.later hbw).at hlt2
        have c1 := hc1 k hlt
        have c2 := hc2 k hlt2
        obtain ⟨x, hx⟩ : ∃ x, xs.getD k 0 = x := ⟨_, rfl⟩
        obtain ⟨y, hy⟩ : ∃ y, ys.getD k 0 = y := ⟨_, rfl⟩
        rw [hx] at c1
        rw [hy] at c2
        have HX := Lib.hid hx
        have HY := Lib.hid hy
        clear hc1 hc2 hx hy ha hb
        have i1 : (k : Int) < (xs.length : Int) := by omega
        have i2 : (k : Int) < (ys.length : Int) := by omega
        have i0 : (0 : Int) ≤ (k : Int) := by omega
        go_wp2
        go_quiet (fail)
        go_wp2
        · go_ret
          have hne : ¬ xs = ys := by
            intro he
            subst he
            have hxy : x = y := by rw [← HX.out, ← HY.out]
            simp [hxy] at *
          exact ⟨by rw [decide_eq_false hne]; rfl, below_drewN hbw _⟩
        · have hxy : x = y := by simp at *; assumption
          go_roundw
          case rel => exact ⟨k + 1, by omega, by go_num, take_succ_eq HQ.out hlt hlt2 (by rw [HX.out, HY.out, hxy]), below_drewN hbw _⟩
          case measure => go_light; simp [intOf]; omega
      · have hkk : k = xs.length := by omega
        have he : xs = ys := by
          have h1 := HQ.out
          have h2 := HN.out
          rw [List.take_of_length_le (by omega), List.take_of_length_le (by omega)] at h1
          exact h1
        have HE := Lib.hid he
        clear he hkk
        go_wp2
        go_ret
        exact ⟨by rw [decide_eq_true HE.out]; rfl, hbw⟩
  · have hne : ¬ xs = ys := fun h => hn (by rw [h])
    have HE := Lib.hid hne
    have hn1 : ((xs.length : Int) != (ys.length : Int)) = true := by simp; omega
    clear hn hne
    go_enter Try.func32, Try.ntmps32
    go_wp2
    go_ret
    exact ⟨by rw [decide_eq_false HE.out]; rfl, Below.refl _ _⟩
end Go.Proofs.Ytenhglamnpmkaaa
