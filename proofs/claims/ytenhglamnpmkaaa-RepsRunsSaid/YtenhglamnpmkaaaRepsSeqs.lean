/-
  What opens an argument that is a slice of sequences; the copies and the comparison of sequences, walked.
-/
import Derived.Test.YtenhglamnpmkaaaRows
import Derived.WalkMore
import Derived.Test.YtenhglamnpmkaaaCommon
import Derived.Deep.Light
import Derived.Shelf.Abstract
import Derived.Shelf.RegionOpen
import Derived.OwnWalkIn
import Derived.TacticsInMore
import Derived.LoopNIn
import Derived.LoopIn
import Derived.Test.YtenhglamnpmkaaaFrame
import Derived.Test.YtenhglamnpmkaaaRepsMake
import Derived.Test.YtenhglamnpmkaaaAppendG
import Derived.Test.YtenhglamnpmkaaaFrame2
import Derived.ProofKit
import Derived.Deep.Slices
import Derived.Deep.Fields
import Derived.OpenShut
namespace Go.Proofs.Ytenhglamnpmkaaa
open Go.ChangeShapes Go.WideShapes Go.ChangeAt Go.RowKit Go.Deep
set_option linter.unusedSimpArgs false
set_option linter.unusedVariables false

section
variable {H : Type} {enc : TypeId × Value → H} {P : Program} {w : World} {base : Nat} {spare : Nat → Bool} {held : Bool}
/-- The number that lies in a cell. -/
def numAt (w : World) (a : Addr) : Int := match w.cell? a with | some (.int _ n) => n | _ => 0
/-- One sequence, three cells. -/
theorem open_seq {e k : TypeId} {fs : Array Field} {fuel : Nat} {a : Addr} {cs : List Value} {x : DataW H × List MemPlace} (he : P.underlying e = some (.struct fs)) (hone : oneCellFields P fs = true) (hn : fs.size = 3) (hk : ∀ (j : Nat) (f : Field), fs[j]? = some f → f.type = k) (hi : P.underlying k = some (.int .i64))
    (hc : w.cells? base a 3 = some cs) (h : DataW.trod enc P w base spare held fuel e cs = some x) : ∀ j, j < 3 → w.cell? (a.add j) = some (.int .i64 (numAt w (a.add j))) := by
  intro j hj
  obtain ⟨_, hl, hat⟩ := World.cells?_some hc
  obtain ⟨ys, m, _, _, _, hyl, hf⟩ := DataW.trod_struct he h
  have hfj : fs[j]? = some (fs[j]'(by omega)) := Array.getElem?_eq_getElem _
  obtain ⟨ho, h1⟩ := hone_of hone j _ hfj
  have h2 := hf j _ hfj
  have hcj : cs[j]? = some (cs[j]'(by omega)) := List.getElem?_eq_getElem _
  have hyj : ys[j]? = some (ys[j]'(by omega)) := List.getElem?_eq_getElem _
  have h3 : (cs.drop j).take 1 = [cs[j]'(by omega)] := by
    rw [List.drop_eq_getElem_cons (by omega)]
    rfl
  rw [ho, h1, h3, hyj, hk j _ hfj] at h2
  obtain ⟨n, h4, _⟩ := DataW.trod_int hi h2
  have h5 := hat j hj
  rw [hcj] at h5
  simp only [List.cons.injEq, and_true] at h4
  rw [h4] at h5
  unfold numAt
  rw [h5]
theorem open_seqs {r : Reach} {b0 : Nat} {t e k : TypeId} {fs : Array Field} {v : Value} {d : DataW H} {p : List MemPlace} (ht : P.underlying t = some (.slice e)) (he : P.underlying e = some (.struct fs)) (hone : oneCellFields P fs = true) (hn : fs.size = 3) (hk : ∀ (j : Nat) (f : Field), fs[j]? = some f → f.type = k) (hi : P.underlying k = some (.int .i64)) (hC : P.cellsOf e = 3)
    (hv : Value.okWide P w r b0 t v) (h : DataW.Trod enc P w base (fun _ => true) held t v d p) :
    ∃ (a : Option Addr) (qs : List (Int × Int × Int)) (cap : Nat), v = .slice a qs.length cap ∧ RowQ w a qs ∧ qs.length ≤ maxLen := by
  obtain ⟨a, len, cap, rfl⟩ := okWide_slice ht hv
  obtain ⟨fuel, hf⟩ := h
  rcases open_slice ht hf with ⟨hcs, _⟩ | ⟨x, l, c, m, n, D, Pl, hcs, _, hl, hm, hmm, _, hel⟩
  · simp [Value.cells] at hcs
    obtain ⟨rfl, rfl, rfl⟩ := hcs
    exact ⟨none, [], 0, rfl, .inl rfl, by simp⟩
  · simp [Value.cells] at hcs
    obtain ⟨rfl, rfl, rfl⟩ := hcs
    simp at hmm
    have hlen : ((List.range len).map fun i => (numAt w ((x.add (i * 3)).add 0), numAt w ((x.add (i * 3)).add 1), numAt w ((x.add (i * 3)).add 2))).length = len := by simp
    have each : ∀ i, i < len → ∀ j, j < 3 → w.cell? ((x.add (i * 3)).add j) = some (.int .i64 (numAt w ((x.add (i * 3)).add j))) := by
      intro i hil
      obtain ⟨cs', hc, ht'⟩ := hel i (by omega)
      rw [hC] at hc
      exact open_seq he hone hn hk hi hc ht'
    refine ⟨some x, (List.range len).map fun i => (numAt w ((x.add (i * 3)).add 0), numAt w ((x.add (i * 3)).add 1), numAt w ((x.add (i * 3)).add 2)), cap, by rw [hlen], ?_, by rw [hlen]; exact Nat.le_trans hl hm⟩
    by_cases h0 : len = 0
    · left; subst h0; rfl
    · right
      have hs := cell_spot (each 0 (by omega) 0 (by omega))
      obtain ⟨b, off, sp⟩ := x
      have hsp : sp = none := by
        have := hs.1
        cases sp <;> simp_all [Addr.add]
      subst hsp
      refine ⟨b, off, rfl, by simpa [Addr.add_lit] using hs.2, fun i hi2 => ?_⟩
      rw [hlen] at hi2
      have h1 := each i hi2 0 (by omega)
      have h2 := each i hi2 1 (by omega)
      have h3 := each i hi2 2 (by omega)
      simp only [Addr.add_lit] at h1 h2 h3
      simp only [Nat.add_zero] at h1
      have hg : ((List.range len).map fun i => (numAt w ((⟨b, off, none⟩ : Addr).add (i * 3) |>.add 0), numAt w ((⟨b, off, none⟩ : Addr).add (i * 3) |>.add 1), numAt w ((⟨b, off, none⟩ : Addr).add (i * 3) |>.add 2))).getD i (0, 0, 0) = (numAt w ⟨b, off + i * 3, none⟩, numAt w ⟨b, off + i * 3 + 1, none⟩, numAt w ⟨b, off + i * 3 + 2, none⟩) := by
        simp [List.getD_eq_getElem?_getD, hi2, Addr.add_lit]
      rw [hg]
      exact ⟨h1, h2, h3⟩
end

open Go.Shelf
attribute [local go_sem] eq23 idx23_0 idx23_1 idx23_2 Oper.semAt_some
theorem RowQ.vals {w : World} {a : Option Addr} {qs : List (Int × Int × Int)} (h : RowQ w a qs) : RowV w a (flat qs) := by
  rcases h with rfl | ⟨b, off, rfl, hb, hc⟩
  · exact .inl rfl
  · refine .inr ⟨_, rfl, fun j u hj => ?_⟩
    have hjl := (List.getElem?_eq_some_iff.1 hj).1
    rw [flat_len] at hjl
    obtain ⟨i, r, hr, rfl⟩ : ∃ i r, r < 3 ∧ j = i * 3 + r := ⟨j / 3, j % 3, by omega, by omega⟩
    have hi : i < qs.length := by omega
    obtain ⟨f1, f2, f3⟩ := flat_get qs i hi
    obtain ⟨h1, h2, h3⟩ := hc i hi
    simp only [Addr.add_lit]
    rcases (show r = 0 ∨ r = 1 ∨ r = 2 by omega) with rfl | rfl | rfl
    · rw [Nat.add_zero, f1] at hj
      rw [Nat.add_zero, h1, hj]
    · rw [f2] at hj
      rw [← Nat.add_assoc, h2, hj]
    · rw [f3] at hj
      rw [← Nat.add_assoc, h3, hj]
theorem flat_one (qs : List (Int × Int × Int)) : ∀ u ∈ flat qs, u.oneCell' = true := by
  intro u hu
  obtain ⟨q, _, hq⟩ := List.mem_flatMap.1 hu
  simp at hq
  rcases hq with rfl | rfl | rfl <;> rfl
set_option maxHeartbeats 1000000 in
theorem ownSeqs_k (a : Option Addr) (qs : List (Int × Int × Int)) (cap : Nat) (w : World) (ha : RowQ w a qs) (hl : qs.length ≤ 1000000) :
    Calls Try.prog 33 #[.slice a qs.length cap] w (SeqPost qs w) := by
  obtain ⟨i0, hi, hz0, hz1, hz2⟩ := info_parts infoSeq
  have hr0 := (ha.later ((Below.refl _ w).alloc (Nat.le_refl _) (.cells #[] 79))).vals
  go_enter Try.func33, Try.ntmps33
  go_wp2_with (at_builtin; refine wpList_append_any_g _ (by first | rfl | (simp [Region.wanted, yielded]; done)) _ _ 42 rfl w.heap.size 79 i0 _ 3 24 Try.underlying42 hi hz0 hz1 hz2 rfl (by decide) (.slice (some ⟨w.heap.size, 0, none⟩) 0 0) 0 [] rfl (ownsRow_made2 w 79 3) a qs.length cap (flat qs) rfl (flat_len qs) hr0 (flat_one _) (by unfold maxLen; omega) (by omega) (by simp) (by simp) ?_; intro v1 w1 hown1 hgrow1 hv1)
  rw [List.nil_append, Nat.zero_add] at hown1
  obtain ⟨pa, ca, rfl⟩ : ∃ pa ca, v1 = .slice pa qs.length ca := by
    rcases hown1.2 with ⟨h1, h2⟩ | ⟨g, cap, cur, rfl, _⟩
    · exact absurd h1 hv1
    · exact ⟨_, _, rfl⟩
  have B1 : Below w.heap.size w w1 := ((Below.refl _ w).alloc (Nat.le_refl _) _).grown hgrow1 (by simp) (fun k hk => by simp [Value.ownBlock] at hk; omega)
  go_wp2
  go_ret
  exact ⟨_, _, rfl, RowQ.of_own hown1 rfl, own_cap3 hown1, B1⟩

set_option maxHeartbeats 2000000 in
theorem sameSeqs_k (a b : Option Addr) (qs : List (Int × Int × Int)) (ca cb : Nat) (w : World) (ha : RowQ w a qs) (hb : RowQ w b qs) (hl : qs.length ≤ 9223372036854775807) :
    Calls Try.prog 36 #[.slice a qs.length ca, .slice b qs.length cb] w fun e w' => e = .returned (.bool true) ∧ Below w.heap.size w w' := by
  go_enter Try.func36, Try.ntmps36
  go_wp2
  go_loopw [5] (fun i wr => ∃ k : Nat, k ≤ qs.length ∧ i = .int .i64 k ∧ Below w.heap.size w wr) (fun i _ => qs.length - (intOf i).toNat)
  case atStart => exact ⟨0, by omega, rfl, Below.refl _ _⟩
  case round =>
    obtain ⟨k, hk, rfl, hbw⟩ := hrel
    by_cases hlt : k < qs.length
    · obtain ⟨b1, o1, rfl, hb1, hc1⟩ := (ha.later hbw).at hlt
      obtain ⟨b2, o2, rfl, hb2, hc2⟩ := (hb.later hbw).at hlt
      obtain ⟨c1, c2, c3⟩ := hc1 k hlt
      obtain ⟨d1, d2, d3⟩ := hc2 k hlt
      obtain ⟨⟨x, y, z⟩, hx⟩ : ∃ q, qs.getD k (0, 0, 0) = q := ⟨_, rfl⟩
      rw [hx] at c1 c2 c3 d1 d2 d3
      dsimp only at c1 c2 c3 d1 d2 d3
      have i0 : (0 : Int) ≤ (k : Int) := by omega
      have i1 : (k : Int) < (qs.length : Int) := by omega
      clear hc1 hc2 hx
      go_wp2
      go_quiet (fail)
      go_wp2
      go_roundw
      case rel => exact ⟨k + 1, by omega, by go_num, below_drewN hbw _⟩
      case measure => go_light; simp [intOf] <;> omega
    · obtain rfl : k = qs.length := by omega
      go_wp2
      go_ret
      exact ⟨rfl, hbw⟩
end Go.Proofs.Ytenhglamnpmkaaa
