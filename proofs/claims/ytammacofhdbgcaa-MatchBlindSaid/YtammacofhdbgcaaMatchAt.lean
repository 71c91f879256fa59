/-
  The best match at a place, walked: of the program and of the reference.
-/
import Derived.Test.YtammacofhdbgcaaRows
import Derived.Test.YtammacofhdbgcaaMatchRAll
import Derived.Test.YtammacofhdbgcaaMatch6
import Derived.Test.YtammacofhdbgcaaCommon
import Derived.Deep.Light
import Derived.Shelf.Abstract
import Derived.Shelf.RegionOpen
import Derived.OwnWalkIn
import Derived.TacticsInMore
import Derived.LoopNIn
import Derived.LoopIn
import Derived.Outline
namespace Go.Proofs.Ytammacofhdbgcaa
open Go.RowKit
set_option linter.unusedSimpArgs false
set_option linter.unusedVariables false
open Go.Shelf
attribute [local go_sem] Oper.semAt_some

/-- What At returns. -/
def Rat (s : ByteArray) (p e l d a b c lits : Int) : (Int × Int × Int × Int) × Bool × Int :=
  if (Rall s p e l d a b c lits).2 = 0 then (mbZ (Rall s p e l d a b c lits).1 (Rall s p e l d a b c lits).1.length, decide (0 < (Rall s p e l d a b c lits).1.length), 0)
  else ((0, 0, 0, 0), false, (Rall s p e l d a b c lits).2)
theorem rall_len (s : ByteArray) (p e l d a b c lits : Int) : (Rall s p e l d a b c lits).1.length ≤ 64 := by
  unfold Rall
  repeat' split
  all_goals simp [mofs_len]
  rename_i h
  unfold cands
  split
  · simp
  · simp
    omega

set_option maxHeartbeats 2000000 in
theorem mat_p (s : ByteArray) (p e l d a b c lits : Int) (w : World) (hl : s.size ≤ 9223372036854775807) :
    Calls Try.prog 18 #[.string s, .int .i64 p, .int .i64 e, .int .i64 l, .int .i64 d, .agg #[.int .i64 a, .int .i64 b, .int .i64 c], .int .i64 lits] w fun en w' => en = .returned (.tuple #[.agg #[.int .i64 (Rat s p e l d a b c lits).1.1, .int .i64 (Rat s p e l d a b c lits).1.2.1, .int .i64 (Rat s p e l d a b c lits).1.2.2.1, .int .i64 (Rat s p e l d a b c lits).1.2.2.2], .bool (Rat s p e l d a b c lits).2.1, .int .i64 (Rat s p e l d a b c lits).2.2]) ∧ Below w.heap.size w w' := by
  have q1 := fun w => mall_p s p e l d a b c lits w hl
  have hn := rall_len s p e l d a b c lits
  unfold Rat
  generalize Rall s p e l d a b c lits = R at q1 hn
  obtain ⟨ms, er⟩ := R
  dsimp only at q1 hn ⊢
  by_cases he : er = 0
  · rw [if_pos he]
    subst he
    have q2 := fun pa ca w h => best_p pa ms ca w h (by omega)
    obtain ⟨fb, hfb⟩ : ∃ x, decide (0 < ms.length) = x := ⟨_, rfl⟩
    generalize mbZ ms ms.length = m at q2 ⊢
    rw [hfb] at q2 ⊢
    clear hfb
    obtain ⟨fd, fl, fv, fg⟩ := m
    dsimp only at q2 ⊢
    go_enter Try.func18, Try.ntmps18
    go_wp2_with (first | (go_at_call 16; refine (q1 _).mono ?_; rintro e w1 ⟨pa, ca, hca, rfl, hob, hrA, hb⟩; have hb0 := hb; have hsz := hb.size; (try simp at hsz); (first | (have hbl := blater2 HA (by first | exact Nat.le_refl _ | (simp; done) | (simp; omega)) hb; obtain ⟨hcc, hff, HA, hne, hne'⟩ := hbl) | (obtain ⟨hcc, hff, HA, hne, hne'⟩ := blater1 hb)); (try simp only [World.size_alloc, World.size_setCell] at HA)) | (go_at_call 25; refine (q2 pa ca _ (hrA.later (by repeat' (first | exact Below.refl _ _ | refine Below.drew ?_ | refine below_drewN ?_ _ | refine Below.alloc ?_ (by first | omega | (simp <;> omega)) _ | refine Below.setCell ?_ (by first | omega | (simp <;> omega)) _ | refine Below.trans ?_ (Below.mono (by assumption) (by first | omega | (simp <;> omega))))))).mono ?_; rintro e w1 ⟨rfl, hb⟩; have hsz := hb.size; (try simp at hsz); (first | (have hbl := blater2 HA (by first | exact Nat.le_refl _ | (simp; done) | (simp; omega)) hb; obtain ⟨hcc, hff, HA, hne, hne'⟩ := hbl) | (obtain ⟨hcc, hff, HA, hne, hne'⟩ := blater1 hb)); (try simp only [World.size_alloc, World.size_setCell] at HA); have hB := (((Blk.new (w.alloc (.cells #[.int .i64 a, .int .i64 b, .int .i64 c] 23)) 32 #[.int .i64 0, .int .i64 0, .int .i64 0, .int .i64 0]).below hb0 (by simp)).below hb (by simp; omega)); (try simp only [World.size_alloc] at hB); have bW : Below w.heap.size w w1 := (by repeat' (first | exact Below.refl _ _ | refine Below.drew ?_ | refine below_drewN ?_ _ | refine Below.alloc ?_ (by first | omega | (simp <;> omega)) _ | refine Below.setCell ?_ (by first | omega | (simp <;> omega)) _ | refine Below.trans ?_ (Below.mono (by assumption) (by first | omega | (simp <;> omega)))))))
    repeat' (first | (go_region <;> go_wp2_with (first | (go_at_call 16; refine (q1 _).mono ?_; rintro e w1 ⟨pa, ca, hca, rfl, hob, hrA, hb⟩; have hb0 := hb; have hsz := hb.size; (try simp at hsz); (first | (have hbl := blater2 HA (by first | exact Nat.le_refl _ | (simp; done) | (simp; omega)) hb; obtain ⟨hcc, hff, HA, hne, hne'⟩ := hbl) | (obtain ⟨hcc, hff, HA, hne, hne'⟩ := blater1 hb)); (try simp only [World.size_alloc, World.size_setCell] at HA)) | (go_at_call 25; refine (q2 pa ca _ (hrA.later (by repeat' (first | exact Below.refl _ _ | refine Below.drew ?_ | refine below_drewN ?_ _ | refine Below.alloc ?_ (by first | omega | (simp <;> omega)) _ | refine Below.setCell ?_ (by first | omega | (simp <;> omega)) _ | refine Below.trans ?_ (Below.mono (by assumption) (by first | omega | (simp <;> omega))))))).mono ?_; rintro e w1 ⟨rfl, hb⟩; have hsz := hb.size; (try simp at hsz); (first | (have hbl := blater2 HA (by first | exact Nat.le_refl _ | (simp; done) | (simp; omega)) hb; obtain ⟨hcc, hff, HA, hne, hne'⟩ := hbl) | (obtain ⟨hcc, hff, HA, hne, hne'⟩ := blater1 hb)); (try simp only [World.size_alloc, World.size_setCell] at HA); have hB := (((Blk.new (w.alloc (.cells #[.int .i64 a, .int .i64 b, .int .i64 c] 23)) 32 #[.int .i64 0, .int .i64 0, .int .i64 0, .int .i64 0]).below hb0 (by simp)).below hb (by simp; omega)); (try simp only [World.size_alloc] at hB); have bW : Below w.heap.size w w1 := (by repeat' (first | exact Below.refl _ _ | refine Below.drew ?_ | refine below_drewN ?_ _ | refine Below.alloc ?_ (by first | omega | (simp <;> omega)) _ | refine Below.setCell ?_ (by first | omega | (simp <;> omega)) _ | refine Below.trans ?_ (Below.mono (by assumption) (by first | omega | (simp <;> omega)))))))))
    have hBV := ((((((((hB.set 0 (.int .i64 fd)).set 1 (.int .i64 fl)).set 2 (.int .i64 fv)).set 3 (.int .i64 fg)).set 0 (.int .i64 fd)).set 1 (.int .i64 fl)).set 2 (.int .i64 fv)).set 3 (.int .i64 fg))
    have bV := ((((((((bW.setCell (p := ⟨w.heap.size + 1, 0, none⟩) (by simp) (.int .i64 fd)).setCell (p := ⟨w.heap.size + 1, 1, none⟩) (by simp) (.int .i64 fl)).setCell (p := ⟨w.heap.size + 1, 2, none⟩) (by simp) (.int .i64 fv)).setCell (p := ⟨w.heap.size + 1, 3, none⟩) (by simp) (.int .i64 fg)).setCell (p := ⟨w.heap.size + 1, 0, none⟩) (by simp) (.int .i64 fd)).setCell (p := ⟨w.heap.size + 1, 1, none⟩) (by simp) (.int .i64 fl)).setCell (p := ⟨w.heap.size + 1, 2, none⟩) (by simp) (.int .i64 fv)).setCell (p := ⟨w.heap.size + 1, 3, none⟩) (by simp) (.int .i64 fg))
    generalize ((((((((w1.setCell ⟨w.heap.size + 1, 0, none⟩ (.int .i64 fd)).setCell ⟨w.heap.size + 1, 1, none⟩ (.int .i64 fl)).setCell ⟨w.heap.size + 1, 2, none⟩ (.int .i64 fv)).setCell ⟨w.heap.size + 1, 3, none⟩ (.int .i64 fg)).setCell ⟨w.heap.size + 1, 0, none⟩ (.int .i64 fd)).setCell ⟨w.heap.size + 1, 1, none⟩ (.int .i64 fl)).setCell ⟨w.heap.size + 1, 2, none⟩ (.int .i64 fv)).setCell ⟨w.heap.size + 1, 3, none⟩ (.int .i64 fg)) = V at hBV bV ⊢
    have v0 := hBV.cell 0
    have v1 := hBV.cell 1
    have v2 := hBV.cell 2
    have v3 := hBV.cell 3
    simp at v0 v1 v2 v3
    clear hcc hff HA hne hne' hb hrA hB hob
    
    exact bodyPost_ret (v := .tuple #[.agg #[.int .i64 fd, .int .i64 fl, .int .i64 fv, .int .i64 fg], .bool fb, .int .i64 0]) (by simp [results, Try.results18, go_sem, v0, v1, v2, v3]) rfl ⟨rfl, bV⟩
  · rw [if_neg he]
    dsimp only
    have he2 : (er != 0) = true := by simpa using he
    clear he
    go_enter Try.func18, Try.ntmps18
    go_wp2_with ((go_at_call 16; refine (q1 _).mono ?_; rintro e w1 ⟨pa, ca, hca, rfl, hob, hrA, hb⟩; have hb0 := hb; have hsz := hb.size; (try simp at hsz); (first | (have hbl := blater2 HA (by first | exact Nat.le_refl _ | (simp; done) | (simp; omega)) hb; obtain ⟨hcc, hff, HA, hne, hne'⟩ := hbl) | (obtain ⟨hcc, hff, HA, hne, hne'⟩ := blater1 hb)); (try simp only [World.size_alloc, World.size_setCell] at HA)))
    repeat' (first | (go_region <;> go_wp2_with ((go_at_call 16; refine (q1 _).mono ?_; rintro e w1 ⟨pa, ca, hca, rfl, hob, hrA, hb⟩; have hb0 := hb; have hsz := hb.size; (try simp at hsz); (first | (have hbl := blater2 HA (by first | exact Nat.le_refl _ | (simp; done) | (simp; omega)) hb; obtain ⟨hcc, hff, HA, hne, hne'⟩ := hbl) | (obtain ⟨hcc, hff, HA, hne, hne'⟩ := blater1 hb)); (try simp only [World.size_alloc, World.size_setCell] at HA)))))
    all_goals go_light
    all_goals (refine bodyPost_ret (v := .tuple #[.agg #[.int .i64 0, .int .i64 0, .int .i64 0, .int .i64 0], .bool false, .int .i64 er]) (by simp [results, Try.results18, go_sem, *]) rfl ⟨rfl, ?_⟩; repeat' (first | exact Below.refl _ _ | refine Below.drew ?_ | refine below_drewN ?_ _ | refine Below.alloc ?_ (by first | omega | (simp <;> omega)) _ | refine Below.setCell ?_ (by first | omega | (simp <;> omega)) _ | refine Below.trans ?_ (Below.mono (by assumption) (by first | omega | (simp <;> omega)))))

set_option maxHeartbeats 2000000 in
theorem rat_p (s : ByteArray) (p e l d a b c lits : Int) (w : World) (hl : s.size ≤ 9223372036854775807) :
    Calls Try.prog 19 #[.string s, .int .i64 p, .int .i64 e, .int .i64 l, .int .i64 d, .agg #[.int .i64 a, .int .i64 b, .int .i64 c], .int .i64 lits] w fun en w' => en = .returned (.tuple #[.agg #[.int .i64 (Rat s p e l d a b c lits).1.1, .int .i64 (Rat s p e l d a b c lits).1.2.1, .int .i64 (Rat s p e l d a b c lits).1.2.2.1, .int .i64 (Rat s p e l d a b c lits).1.2.2.2], .bool (Rat s p e l d a b c lits).2.1, .int .i64 (Rat s p e l d a b c lits).2.2]) ∧ Below w.heap.size w w' := by
  have q1 := fun w => rall_p s p e l d a b c lits w hl
  have hn := rall_len s p e l d a b c lits
  unfold Rat
  generalize Rall s p e l d a b c lits = R at q1 hn
  obtain ⟨ms, er⟩ := R
  dsimp only at q1 hn ⊢
  by_cases he : er = 0
  · rw [if_pos he]
    subst he
    have q2 := fun pa ca w h => rbest_p pa ms ca w h (by omega)
    obtain ⟨fb, hfb⟩ : ∃ x, decide (0 < ms.length) = x := ⟨_, rfl⟩
    generalize mbZ ms ms.length = m at q2 ⊢
    rw [hfb] at q2 ⊢
    clear hfb
    obtain ⟨fd, fl, fv, fg⟩ := m
    dsimp only at q2 ⊢
    go_enter Try.func19, Try.ntmps19
    go_wp2_with (first | (go_at_call 17; refine (q1 _).mono ?_; rintro e w1 ⟨pa, ca, hca, rfl, hob, hrA, hb⟩; have hb0 := hb; have hsz := hb.size; (try simp at hsz); (first | (have hbl := blater2 HA (by first | exact Nat.le_refl _ | (simp; done) | (simp; omega)) hb; obtain ⟨hcc, hff, HA, hne, hne'⟩ := hbl) | (obtain ⟨hcc, hff, HA, hne, hne'⟩ := blater1 hb)); (try simp only [World.size_alloc, World.size_setCell] at HA)) | (go_at_call 31; refine (q2 pa ca _ (hrA.later (by repeat' (first | exact Below.refl _ _ | refine Below.drew ?_ | refine below_drewN ?_ _ | refine Below.alloc ?_ (by first | omega | (simp <;> omega)) _ | refine Below.setCell ?_ (by first | omega | (simp <;> omega)) _ | refine Below.trans ?_ (Below.mono (by assumption) (by first | omega | (simp <;> omega))))))).mono ?_; rintro e w1 ⟨rfl, hb⟩; have hsz := hb.size; (try simp at hsz); (first | (have hbl := blater2 HA (by first | exact Nat.le_refl _ | (simp; done) | (simp; omega)) hb; obtain ⟨hcc, hff, HA, hne, hne'⟩ := hbl) | (obtain ⟨hcc, hff, HA, hne, hne'⟩ := blater1 hb)); (try simp only [World.size_alloc, World.size_setCell] at HA); have hB := (((Blk.new (w.alloc (.cells #[.int .i64 a, .int .i64 b, .int .i64 c] 23)) 32 #[.int .i64 0, .int .i64 0, .int .i64 0, .int .i64 0]).below hb0 (by simp)).below hb (by simp; omega)); (try simp only [World.size_alloc] at hB); have bW : Below w.heap.size w w1 := (by repeat' (first | exact Below.refl _ _ | refine Below.drew ?_ | refine below_drewN ?_ _ | refine Below.alloc ?_ (by first | omega | (simp <;> omega)) _ | refine Below.setCell ?_ (by first | omega | (simp <;> omega)) _ | refine Below.trans ?_ (Below.mono (by assumption) (by first | omega | (simp <;> omega)))))))
    repeat' (first | (go_region <;> go_wp2_with (first | (go_at_call 17; refine (q1 _).mono ?_; rintro e w1 ⟨pa, ca, hca, rfl, hob, hrA, hb⟩; have hb0 := hb; have hsz := hb.size; (try simp at hsz); (first | (have hbl := blater2 HA (by first | exact Nat.le_refl _ | (simp; done) | (simp; omega)) hb; obtain ⟨hcc, hff, HA, hne, hne'⟩ := hbl) | (obtain ⟨hcc, hff, HA, hne, hne'⟩ := blater1 hb)); (try simp only [World.size_alloc, World.size_setCell] at HA)) | (go_at_call 31; refine (q2 pa ca _ (hrA.later (by repeat' (first | exact Below.refl _ _ | refine Below.drew ?_ | refine below_drewN ?_ _ | refine Below.alloc ?_ (by first | omega | (simp <;> omega)) _ | refine Below.setCell ?_ (by first | omega | (simp <;> omega)) _ | refine Below.trans ?_ (Below.mono (by assumption) (by first | omega | (simp <;> omega))))))).mono ?_; rintro e w1 ⟨rfl, hb⟩; have hsz := hb.size; (try simp at hsz); (first | (have hbl := blater2 HA (by first | exact Nat.le_refl _ | (simp; done) | (simp; omega)) hb; obtain ⟨hcc, hff, HA, hne, hne'⟩ := hbl) | (obtain ⟨hcc, hff, HA, hne, hne'⟩ := blater1 hb)); (try simp only [World.size_alloc, World.size_setCell] at HA); have hB := (((Blk.new (w.alloc (.cells #[.int .i64 a, .int .i64 b, .int .i64 c] 23)) 32 #[.int .i64 0, .int .i64 0, .int .i64 0, .int .i64 0]).below hb0 (by simp)).below hb (by simp; omega)); (try simp only [World.size_alloc] at hB); have bW : Below w.heap.size w w1 := (by repeat' (first | exact Below.refl _ _ | refine Below.drew ?_ | refine below_drewN ?_ _ | refine Below.alloc ?_ (by first | omega | (simp <;> omega)) _ | refine Below.setCell ?_ (by first | omega | (simp <;> omega)) _ | refine Below.trans ?_ (Below.mono (by assumption) (by first | omega | (simp <;> omega)))))))))
    have hBV := ((((hB.set 0 (.int .i64 fd)).set 1 (.int .i64 fl)).set 2 (.int .i64 fv)).set 3 (.int .i64 fg))
    have bV := ((((bW.setCell (p := ⟨w.heap.size + 1, 0, none⟩) (by simp) (.int .i64 fd)).setCell (p := ⟨w.heap.size + 1, 1, none⟩) (by simp) (.int .i64 fl)).setCell (p := ⟨w.heap.size + 1, 2, none⟩) (by simp) (.int .i64 fv)).setCell (p := ⟨w.heap.size + 1, 3, none⟩) (by simp) (.int .i64 fg))
    generalize ((((w1.setCell ⟨w.heap.size + 1, 0, none⟩ (.int .i64 fd)).setCell ⟨w.heap.size + 1, 1, none⟩ (.int .i64 fl)).setCell ⟨w.heap.size + 1, 2, none⟩ (.int .i64 fv)).setCell ⟨w.heap.size + 1, 3, none⟩ (.int .i64 fg)) = V at hBV bV ⊢
    have v0 := hBV.cell 0
    have v1 := hBV.cell 1
    have v2 := hBV.cell 2
    have v3 := hBV.cell 3
    simp at v0 v1 v2 v3
    clear hcc hff HA hne hne' hb hrA hB hob
    have hBW := hBV.alloc (.cells #[.int .i64 fd, .int .i64 fl, .int .i64 fv, .int .i64 fg] 32); replace bV := bV.alloc (by have := bV.size; omega) (.cells #[.int .i64 fd, .int .i64 fl, .int .i64 fv, .int .i64 fg] 32); generalize (V.alloc _) = V2 at hBW bV ⊢; replace v0 := hBW.cell 0; replace v1 := hBW.cell 1; replace v2 := hBW.cell 2; replace v3 := hBW.cell 3; simp at v0 v1 v2 v3
    exact bodyPost_ret (v := .tuple #[.agg #[.int .i64 fd, .int .i64 fl, .int .i64 fv, .int .i64 fg], .bool fb, .int .i64 0]) (by simp [results, Try.results19, go_sem, v0, v1, v2, v3]) rfl ⟨rfl, bV⟩
  · rw [if_neg he]
    dsimp only
    have he2 : (er != 0) = true := by simpa using he
    clear he
    go_enter Try.func19, Try.ntmps19
    go_wp2_with ((go_at_call 17; refine (q1 _).mono ?_; rintro e w1 ⟨pa, ca, hca, rfl, hob, hrA, hb⟩; have hb0 := hb; have hsz := hb.size; (try simp at hsz); (first | (have hbl := blater2 HA (by first | exact Nat.le_refl _ | (simp; done) | (simp; omega)) hb; obtain ⟨hcc, hff, HA, hne, hne'⟩ := hbl) | (obtain ⟨hcc, hff, HA, hne, hne'⟩ := blater1 hb)); (try simp only [World.size_alloc, World.size_setCell] at HA)))
    repeat' (first | (go_region <;> go_wp2_with ((go_at_call 17; refine (q1 _).mono ?_; rintro e w1 ⟨pa, ca, hca, rfl, hob, hrA, hb⟩; have hb0 := hb; have hsz := hb.size; (try simp at hsz); (first | (have hbl := blater2 HA (by first | exact Nat.le_refl _ | (simp; done) | (simp; omega)) hb; obtain ⟨hcc, hff, HA, hne, hne'⟩ := hbl) | (obtain ⟨hcc, hff, HA, hne, hne'⟩ := blater1 hb)); (try simp only [World.size_alloc, World.size_setCell] at HA)))))
    all_goals go_light
    all_goals (refine bodyPost_ret (v := .tuple #[.agg #[.int .i64 0, .int .i64 0, .int .i64 0, .int .i64 0], .bool false, .int .i64 er]) (by simp [results, Try.results19, go_sem, *]) rfl ⟨rfl, ?_⟩; repeat' (first | exact Below.refl _ _ | refine Below.drew ?_ | refine below_drewN ?_ _ | refine Below.alloc ?_ (by first | omega | (simp <;> omega)) _ | refine Below.setCell ?_ (by first | omega | (simp <;> omega)) _ | refine Below.trans ?_ (Below.mono (by assumption) (by first | omega | (simp <;> omega)))))
end Go.Proofs.Ytammacofhdbgcaa
