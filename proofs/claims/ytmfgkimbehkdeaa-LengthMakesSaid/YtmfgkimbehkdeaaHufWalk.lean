/-
  The tree walked by the recursive closure: the depths written.
-/
import Derived.Test.YtmfgkimbehkdeaaRows
import Derived.Test.YtmfgkimbehkdeaaHufHq
import Derived.RegionTactic
namespace Go.Proofs.Ytmfgkimbehkdeaa
open Go.RowKit
set_option linter.unusedSimpArgs false
set_option linter.unusedVariables false
attribute [local go_sem] Oper.semAt_some
/-- Joined trees have an age. -/
def AgedT : HT → Prop
  | .leaf _ _ => True
  | .join _ g a b => 1 ≤ g ∧ AgedT a ∧ AgedT b
/-- All symbols are below m. -/
def SymT (m : Nat) : HT → Prop
  | .leaf _ s => s < m
  | .join _ _ a b => SymT m a ∧ SymT m b
theorem symT_of {m : Nat} : ∀ {t : HT}, (∀ p ∈ lf t, p.1 < m) → SymT m t := by
  intro t
  induction t with
  | leaf c s => intro h; exact h (s, c) (by simp [lf])
  | join c g a b iha ihb => intro h; exact ⟨iha fun p hp => h p (by simp [lf, hp]), ihb fun p hp => h p (by simp [lf, hp])⟩
theorem height_lf : ∀ (t : HT), t.height + 1 ≤ (lf t).length := by
  intro t
  induction t with
  | leaf c s => simp [HT.height, lf]
  | join c g a b iha ihb =>
    simp only [HT.height, lf, List.length_append]
    omega
def ints (l : List Nat) : List Int := l.map (fun n : Nat => (n : Int))
theorem ints_length (l : List Nat) : (ints l).length = l.length := by simp [ints]
def WalkPost (go : Nat) (L : List Nat) (w : World) (e : Ending) (w' : World) : Prop := e = .returned (.tuple #[]) ∧ Arr w' go 3 (ints L) ∧ But (fun k => k = go) w w'
set_option maxHeartbeats 2000000 in
theorem walk_p (bo bw go m : Nat) (hm : m < 100000) (h1 : bo ≠ go) (h2 : bw ≠ go) : ∀ (t : HT) (B d : Nat) (out : List Nat) (w : World), AgedT t → SymT m t → out.length = m → d + t.height < 100000 → Rep 50 w B t →
    w.cell? ⟨bo, 0, none⟩ = some (.slice (some ⟨go, 0, none⟩) m m) → w.cell? ⟨bw, 0, none⟩ = some (.func (.func 42) #[] #[.pointer (some ⟨bo, 0, none⟩), .pointer (some ⟨bw, 0, none⟩)]) → Arr w go 3 (ints out) →
    Calls Try.prog 42 #[.pointer (some ⟨B, 0, none⟩), .int .i64 (d : Int), .pointer (some ⟨bo, 0, none⟩), .pointer (some ⟨bw, 0, none⟩)] w (WalkPost go (wlk t d out) w) := by
  intro t
  induction t with
  | leaf c s =>
    intro B d out w hA hS hl hd hR hbo hbw hG
    have c1 := Blk.cell hR 1
    have c2 := Blk.cell hR 2
    simp only [List.getElem?_cons_succ, List.getElem?_cons_zero] at c1 c2
    have hs : s < m := hS
    have s0 : (0 : Int) ≤ (s : Int) := by omega
    have s1 : (s : Int) < (m : Int) := by omega
    have g1 := hG.get (i := s) (by rw [ints_length]; omega)
    have f1 := Blk.frozen hG s
    go_enter Try.func42, Try.ntmps42
    go_wp2
    go_region
    all_goals go_wp2
    all_goals go_light
    all_goals
      refine bodyPost_end (results_none rfl _ _ _) rfl ⟨rfl, ?_, ?_⟩
    · have := hG.set s (d : Int)
      unfold ints wlk
      rw [List.map_set]
      exact this
    · exact (But.setCell (S := fun k => k = go) w (a := ⟨go, s, none⟩) _ rfl).trans (But.of_below (Below.refl _ _).drew)
  | join c g a b iha ihb =>
    intro B d out w hA hS hl hd hR hbo hbw hG
    obtain ⟨Ba, Bb, hN, hRa, hRb⟩ := hR
    obtain ⟨hg1, hAa, hAb⟩ := hA
    obtain ⟨hSa, hSb⟩ := hS
    have hh : d + 1 + a.height < 100000 ∧ d + 1 + b.height < 100000 := by
      unfold HT.height at hd
      omega
    have c2 := Blk.cell hN 2
    have c3 := Blk.cell hN 3
    have c4 := Blk.cell hN 4
    simp only [List.getElem?_cons_succ, List.getElem?_cons_zero] at c2 c3 c4
    have d0 : (0 : Int) ≤ (d : Int) := by omega
    have d1 : (d : Int) < 100000 := by omega
    have e0 : ((g : Int) == 0) = false := by simp; omega
    obtain ⟨k, hk⟩ : ∃ k, d + 1 = k := ⟨_, rfl⟩
    have e1 : IntKind.i64.wrap ((d : Int) + 1) = (k : Int) := by rw [IntWalk.i64_in _ (by omega)]; omega
    have e2 : (d : Int) + 1 = (k : Int) := by omega
    have e3 : IntKind.i64.wrap (k : Int) = (k : Int) := IntWalk.i64_in _ (by omega)
    rw [hk] at hh
    have qa := fun W (x1 : Rep 50 W Ba a) x2 x3 x4 => iha Ba k out W hAa hSa hl hh.1 x1 x2 x3 x4
    have qb := fun W (x1 : Rep 50 W Bb b) x2 x3 x4 => ihb Bb k (wlk a k out) W hAb hSb (by rw [wlk_length]; exact hl) hh.2 x1 x2 x3 x4
    have HK := Lib.hid hk
    clear hh hd iha ihb hk
    have hty : ∀ X, Arr X go 3 (ints out) → ∀ Y, But (fun k => k = go) X Y → NK 50 X Y := fun X hX Y hb => NK.of_but hb hX (by decide)
    go_enter Try.func42, Try.ntmps42
    go_wp2
    go_region_with (go_at_call 42; refine (qa _ (hRa.nk (NK.of_below (by repeat' (first | with_reducible exact Below.refl _ _ | with_reducible refine Below.drew ?_)))) (by simpa [go_sem] using hbo) (by simpa [go_sem] using hbw) (Blk.later hG (by repeat' (first | with_reducible exact Below.refl _ _ | with_reducible refine Below.drew ?_)))).mono ?_; rintro e w1 ⟨rfl, hG1, hB1⟩)
    all_goals
      have hB2 : But (fun k => k = go) w w1 := (But.of_below (by repeat' (first | with_reducible exact Below.refl _ _ | with_reducible refine Below.drew ?_))).trans hB1
      have hN2 : NK 50 w w1 := hty _ hG _ hB2
      have hbo1 : w1.cell? ⟨bo, 0, none⟩ = _ := hB2.cell h1 hbo
      have hbw1 : w1.cell? ⟨bw, 0, none⟩ = _ := hB2.cell h2 hbw
      have k4 := Blk.cell (hN2 _ _ hN) 4
      simp only [List.getElem?_cons_succ, List.getElem?_cons_zero] at k4
      have HB2 := Lib.hid hB2
      have HN2 := Lib.hid hN2
      clear hB1 hB2 hN2 hbo hbw c2 c3 c4 qa
    all_goals go_wp2
    all_goals go_region_with (go_at_call 42; refine (qb _ ((hRb.nk HN2.out).nk (NK.of_below (by repeat' (first | with_reducible exact Below.refl _ _ | with_reducible refine Below.drew ?_)))) (by simpa [go_sem] using hbo1) (by simpa [go_sem] using hbw1) (Blk.later hG1 (by repeat' (first | with_reducible exact Below.refl _ _ | with_reducible refine Below.drew ?_)))).mono ?_; rintro e w2 ⟨rfl, hG2, hB2⟩)
    all_goals go_wp2
    all_goals go_light
    all_goals
      refine bodyPost_end (results_none rfl _ _ _) rfl ⟨rfl, ?_, (HB2.out.trans (But.of_below (by repeat' (first | with_reducible exact Below.refl _ _ | with_reducible refine Below.drew ?_)))).trans hB2⟩
      have e := HK.out
      unfold wlk
      rw [e]
      exact hG2
end Go.Proofs.Ytmfgkimbehkdeaa
