/-
  heap.Push and heap.Pop at the heap of nodes, walked.
-/
import Derived.Test.YtmfgkimbehkdeaaRows
import Derived.Test.YtmfgkimbehkdeaaHufHp
namespace Go.Proofs.Ytmfgkimbehkdeaa
open Go.RowKit
set_option linter.unusedSimpArgs false
set_option linter.unusedVariables false
attribute [local go_sem] Oper.semAt_some mLen mLess mSwap mPush mPop
theorem HAt.own {H g n cap : Nat} {l : List (Nat × HT)} {w : World} (h : HAt H g n cap l w) {base : Nat} (hb : base ≤ g) : w.ownsRow base 48 1 (.slice (some ⟨g, 0, none⟩) n cap) n (l.map ptr) := by
  obtain ⟨vs, h1, h2, h3⟩ := h.row
  refine ⟨by simp [h.len], .inr ⟨g, cap, vs.toArray, rfl, hb, h1, h.hcap, h.hmax, by simp [h2], by simpa using h3⟩⟩
theorem HAt.of_own {H g n cap base : Nat} {l : List (Nat × HT)} {w : World} (h : w.ownsRow base 48 1 (.slice (some ⟨g, 0, none⟩) n cap) n (l.map ptr)) (h1 : Blk w H 46 [.slice (some ⟨g, 0, none⟩) n cap])
    (hr : Reps 50 w l) (hn : H ≠ g) : HAt H g n cap l w := by
  obtain ⟨hl, h⟩ := h
  rcases h with ⟨h, _⟩ | ⟨g', cap', cur, hv, hb, hh, hc, hm, hs, ht⟩
  · cases h
  · cases hv
    exact ⟨h1, ⟨cur.toList, hh, by simpa using hs, by simpa using ht⟩, by simpa using hl, hc, hm, hr, hn⟩
def PushPost (H g n cap : Nat) (l : List (Nat × HT)) (x : Nat × HT) (w : World) (e : Ending) (w' : World) : Prop :=
  e = .returned (.tuple #[]) ∧ ∃ g' cap' l', HAt H g' (n + 1) cap' l' w' ∧ l'.Perm (x :: l) ∧ HeapN plt l' (n + 1) ∧ (g' = g ∨ w.heap.size ≤ g') ∧ But (fun k => k = g ∨ k = H) w w'
theorem but_grown {S : Nat → Prop} {X Y : World} {row : Option Nat} (h : X.grownBy Y row) (hr : ∀ g, row = some g → S g) : But S X Y :=
  ⟨h.os, h.tape, h.output, h.size, fun k o hn hk => (h.block k (Array.getElem?_eq_some_iff.1 hk).1 (fun e => hn (hr k e.symm))).trans hk⟩
/-- What a push leaves ahead of the sifting. -/
theorem push_h {H g n cap : Nat} {l : List (Nat × HT)} {w : World} (hA : HAt H g n cap l w) {B : Nat} {t : HT} (hR : Rep 50 w B t) (hn : n < 100000) :
    Calls Try.prog 71 #[.pointer (some ⟨H, 0, none⟩), .iface 48 (.pointer (some ⟨B, 0, none⟩))] w fun e w' => e = .returned (.tuple #[]) ∧
      ∃ g' cap', HAt H g' (n + 1) cap' (l ++ [(B, t)]) w' ∧ (g' = g ∨ w.heap.size ≤ g') ∧ But (fun k => k = g ∨ k = H) w w' := by
  have hg : g < w.heap.size := by obtain ⟨vs, h1, _⟩ := hA.row; exact h1.lt
  have hl := World.block_lt_of_cell? w ⟨H, 0, none⟩ hA.box
  dsimp only at hl
  refine (push_p H 0 n _ (l.map ptr) B w (by simp [Value.ownBlock]; exact fun h => hA.ne h.symm) (Nat.zero_le _) hn hA.box hA.boxf (hA.own (Nat.zero_le _))).mono ?_
  rintro e w' ⟨rfl, g', cap', w1, hown, rfl, hgrow, hat, hlt⟩
  have b1 : But (fun k => k = g ∨ k = H) w w1 := by
    refine (But.of_below ?_).trans (but_grown hgrow ?_)
    · exact ((Below.refl _ _).alloc (Nat.le_refl _) _).drew
    · intro k hk
      simp [Value.ownBlock] at hk
      exact .inl hk.symm
  have hgg : g' = g ∨ w.heap.size ≤ g' := by
    rcases hat with h | h
    · simp [Value.ownBlock] at h
      exact .inl h.symm
    · exact .inr (by omega)
  have hne : H ≠ g' := by
    rcases hgg with h | h
    · rw [h]; exact hA.ne
    · omega
  have b2 : But (fun k => k = g ∨ k = H) w1 (w1.setCell ⟨H, 0, none⟩ (.slice (some ⟨g', 0, none⟩) (n + 1) cap')) := But.setCell _ _ (.inr rfl)
  have b3 : But (fun k => k = g) w w1 := by
    refine (But.of_below ?_).trans (but_grown hgrow ?_)
    · exact ((Below.refl _ _).alloc (Nat.le_refl _) _).drew
    · intro k hk
      simp [Value.ownBlock] at hk
      exact hk.symm
  have hH1 : Blk w1 H 46 [.slice (some ⟨g, 0, none⟩) n cap] := b3.block _ _ hA.ne hA.blk
  obtain ⟨vs, h1, _⟩ := hA.row
  have k1 : NK 50 w w1 := NK.of_but b3 h1 (by decide)
  have k2 : NK 50 w1 (w1.setCell ⟨H, 0, none⟩ (.slice (some ⟨g', 0, none⟩) (n + 1) cap')) := NK.setCell _ hH1 (by decide)
  refine ⟨rfl, g', cap', HAt.of_own (base := 0) ?_ (hH1.set 0 _) ?_ hne, hgg, b1.trans b2⟩
  · rw [List.map_append]
    obtain ⟨o1, o2⟩ := hown
    refine ⟨o1, ?_⟩
    rcases o2 with ⟨h, _⟩ | ⟨g2, c2, cur, hv, hb, hh, r⟩
    · cases h
    · cases hv
      exact .inr ⟨_, _, cur, rfl, hb, (show Blk (w1.setCell _ _) g' _ cur.toList from Blk.other (show Blk w1 g' _ cur.toList from hh) hne _), r⟩
  · intro p hp
    simp only [List.mem_append, List.mem_singleton] at hp
    rcases hp with hp | rfl
    · exact ((hA.reps p hp).nk k1).nk k2
    · exact (hR.nk k1).nk k2
set_option maxHeartbeats 1000000 in
theorem hpush_p {H g n cap : Nat} {l : List (Nat × HT)} {w : World} (hA : HAt H g n cap l w) (hP : HeapN plt l n) {B : Nat} {t : HT} (hR : Rep 50 w B t) (hn : n < 90000) :
    Calls Try.prog 39 #[.iface 44 (.pointer (some ⟨H, 0, none⟩)), .iface 48 (.pointer (some ⟨B, 0, none⟩))] w (PushPost H g n cap l (B, t) w) := by
  have hU : Hid (UpInv plt (l ++ [(B, t)]) n) := by
    have h1 := hA.len
    subst h1
    exact Lib.hid (up_new hP _)
  have q1 := push_h hA hR (by omega)
  have e1 : IntKind.i64.wrap ((n + 1 : Nat) - 1 : Int) = (n : Int) := by rw [IntWalk.i64_in _ (by omega)]; omega
  have e2 : IntKind.i64.wrap ((n : Int) + 1 - 1) = (n : Int) := by rw [IntWalk.i64_in _ (by omega)]; omega
  have hg : g < w.heap.size := by obtain ⟨vs, h1, _⟩ := hA.row; exact h1.lt
  have HG := Lib.hid hg
  clear hP hg
  go_enter Try.func39, Try.ntmps39
  go_wp2_with (go_at_call 71; (with_reducible refine q1.mono ?_); rintro e w1 ⟨rfl, g', cap', hA1, hgg, hB1⟩; have hbox1 := hA1.box)
  go_wp2_with (first | (go_at_call 40; (with_reducible refine (len_p _ _ _ _).mono ?_); rintro e w2 ⟨rfl, rfl⟩) | (go_at_call 48; (with_reducible refine (up_p H g' (n + 1) cap' n _ _ hA1 hU.out (by omega) (by omega)).mono ?_); rintro e w3 ⟨rfl, l', hA3, hP3, hH3, hB3⟩))
  refine bodyPost_end (results_none rfl _ _ _) rfl ⟨rfl, g', cap', l', hA3, hP3.trans ?_, hH3, hgg, ?_⟩
  · exact List.perm_append_singleton _ _
  · have hg := HG.out
    refine ⟨hB3.os.trans hB1.os, hB3.tape.trans hB1.tape, hB3.output.trans hB1.output, Nat.le_trans hB1.size hB3.size, fun k o hn hk => ?_⟩
    refine hB3.block k o ?_ (hB1.block k o hn hk)
    rintro rfl
    rcases hgg with h | h
    · exact hn (.inl h)
    · have := (Array.getElem?_eq_some_iff.1 hk).1
      omega
def PopPost (H g n cap : Nat) (l : List (Nat × HT)) (w : World) (e : Ending) (w' : World) : Prop :=
  ∃ x l', e = .returned (.iface 48 (ptr x)) ∧ HAt H g n cap l' w' ∧ (x :: l').Perm l ∧ (∀ z ∈ l', ¬ plt z x) ∧ HeapN plt l' n ∧ But (fun k => k = g ∨ k = H) w w'
theorem HAt.pop {H g n cap : Nat} {l : List (Nat × HT)} {w : World} (h : HAt H g (n + 1) cap l w) : HAt H g n cap (l.take n) (w.setCell ⟨H, 0, none⟩ (.slice (some ⟨g, 0, none⟩) n cap)) ∧ But (fun k => k = g ∨ k = H) w (w.setCell ⟨H, 0, none⟩ (.slice (some ⟨g, 0, none⟩) n cap)) := by
  obtain ⟨vs, h1, h2, h3⟩ := h.row
  have hk : NK 50 w (w.setCell ⟨H, 0, none⟩ (.slice (some ⟨g, 0, none⟩) n cap)) := NK.setCell _ h.blk (by decide)
  have hlen := h.len
  have hcap := h.hcap
  refine ⟨⟨h.blk.set 0 _, ⟨vs, h1.other h.ne _, h2, ?_⟩, by simp; omega, by omega, h.hmax, fun p hp => (h.reps p (List.mem_of_mem_take hp)).nk hk, h.ne⟩, But.setCell _ _ (.inr rfl)⟩
  rw [List.map_take, ← h3, List.take_take, Nat.min_eq_left (by omega)]
set_option maxHeartbeats 1000000 in
theorem hpop_p {H g n cap : Nat} {l : List (Nat × HT)} {w : World} (hA : HAt H g (n + 1) cap l w) (hP : HeapN plt l (n + 1)) (hn : n < 90000) :
    Calls Try.prog 41 #[.iface 44 (.pointer (some ⟨H, 0, none⟩))] w (PopPost H g n cap l w) := by
  have hlen := hA.len
  obtain ⟨x, hx⟩ : ∃ x, l[0]? = some x := ⟨_, List.getElem?_eq_getElem (by omega)⟩
  obtain ⟨y, hy⟩ : ∃ y, l[n]? = some y := ⟨_, List.getElem?_eq_getElem (by omega)⟩
  have HX := Lib.hid hx
  have HY := Lib.hid hy
  have HPN := Lib.hid hP
  have e1 : IntKind.i64.wrap ((n + 1 : Nat) - 1 : Int) = (n : Int) := by rw [IntWalk.i64_in _ (by omega)]; omega
  have e2 : IntKind.i64.wrap ((n : Int) + 1 - 1) = (n : Int) := by rw [IntWalk.i64_in _ (by omega)]; omega
  have hbox := hA.box
  have q1 : Calls Try.prog 72 #[.slice (some ⟨g, 0, none⟩) (n + 1) cap, .int .i64 0, .int .i64 (n : Int)] w fun e w' => e = .returned (.tuple #[]) ∧ HAt H g (n + 1) cap (swp l 0 n x y) w' ∧ But (fun k => k = g) w w' := swap_h hA hx hy
  have HU : Hid (DnInv plt (swp l 0 n x y) n 0) := Lib.hid (dn_new hP hx hy)
  have HL : Hid ((swp l 0 n x y)[n]? = some x) := Lib.hid (by rw [swp_at hx hy, if_pos rfl])
  have HQ := Lib.hid (swp_perm hx hy)
  clear hP hx hy hlen
  generalize swp l 0 n x y = l1 at q1 HU HL HQ
  go_enter Try.func41, Try.ntmps41
  go_wp2_with (first | (go_at_call 40; (with_reducible refine (len_p _ _ _ _).mono ?_); rintro e w2 ⟨rfl, rfl⟩) | (go_at_call 72; (with_reducible refine q1.mono ?_); rintro e w1 ⟨rfl, hA1, hB1⟩) | (go_at_call 49; (with_reducible refine (down_p H g (n + 1) cap n _ _ hA1 HU.out (by omega) (by omega)).mono ?_); rintro e w3 ⟨b, rfl, l', hA3, hP3, hH3, hM3, hB3⟩; have HP3 := Lib.hid hP3; have HM3 := Lib.hid hM3; have HH3 := Lib.hid hH3; clear hP3 hM3 hH3) | (go_at_call 70; have hq : _ = some (Value.pointer (some ⟨x.1, 0, none⟩)) := (hA3.at (HM3.out.trans HL.out)).2.1; (with_reducible refine (pop_p H g 0 n cap _ _ hA3.hcap (by omega) hA3.box hA3.boxf hq).mono ?_); rintro e w4 ⟨rfl, rfl⟩))
  have hA3' := hA3
  obtain ⟨hA4, hB4⟩ := hA3.pop
  have hL3 := hA3.len
  have e3 : l' = l'.take n ++ [x] := by
    have h1 := HM3.out.trans HL.out
    obtain ⟨h2, h3⟩ := List.getElem?_eq_some_iff.1 h1
    have h4 := List.take_succ_eq_append_getElem h2
    rw [h3, List.take_of_length_le (by omega)] at h4
    exact h4
  have hp : (x :: l'.take n).Perm l := by
    refine List.Perm.trans ?_ (HP3.out.trans HQ.out)
    conv => rhs; rw [e3]
    exact (List.perm_append_singleton _ _).symm
  refine bodyPost_ret (v := .iface 48 (ptr x)) (by simp [results, Try.results41, go_sem, ptr]) rfl ⟨x, l'.take n, rfl, hA4, hp, ?_, ?_, ?_⟩
  · intro z hz
    have hm := hp.mem_iff.1 (List.mem_cons_of_mem _ hz)
    obtain ⟨k, hk, rfl⟩ := List.getElem_of_mem hm
    exact heap_least plt_ord HPN.out HX.out (by rw [hA.len]; exact Nat.le_refl _) k _ (by rw [hA.len] at hk; exact hk) (List.getElem?_eq_getElem hk)
  · intro i a b h0 h1 ha hb
    rw [List.getElem?_take, if_pos h1] at ha
    rw [List.getElem?_take, if_pos (by omega)] at hb
    exact HH3.out i a b h0 h1 ha hb
  · have k : ∀ {X Y : World}, But (fun k => k = g) X Y → But (fun k => k = g ∨ k = H) X Y := fun h => ⟨h.os, h.tape, h.output, h.size, fun i o hn hi => h.block i o (fun hh => hn (.inl hh)) hi⟩
    exact ((k hB1).trans (k hB3)).trans hB4
end Go.Proofs.Ytmfgkimbehkdeaa
