/-
  Step, walked: of the program and of the reference.
-/
import Derived.Test.YtammacofhdbgcaaRows
import Derived.Test.YtammacofhdbgcaaParseNext
import Derived.Test.YtammacofhdbgcaaParseOf
import Derived.Test.YtammacofhdbgcaaParseRStep
import Derived.Test.YtammacofhdbgcaaRoundDraw
import Derived.Test.YtammacofhdbgcaaGBase
import Derived.Deep.Light
import Derived.Shelf.Abstract
import Derived.Shelf.RegionOpen
import Derived.OwnWalkIn
import Derived.TacticsInMore
import Derived.LoopNIn
import Derived.LoopIn
import Derived.Outline
namespace Go.Proofs.Ytammacofhdbgcaa
open Go.RowKit
set_option linter.unusedSimpArgs false
set_option linter.unusedVariables false
open Go.Shelf
attribute [local go_sem] eq32 Oper.semAt_some

/-- The error of a step. -/
def Pstp (n : Nat) (p e L W J O a b c li : Int) : Int := if Pask n p e L W J O a b c ≠ 0 then Pask n p e L W J O a b c else if li < 0 ∨ 131072 < li then 2 else 0
/-- What a step gives, and its error. -/
def Pstep (s : ByteArray) (p e L W J O a b c li : Int) : Nat × (Int × Int × Int × Int) × Bool × Int :=
  if Pstp s.size p e L W J O a b c li ≠ 0 then (0, (0, 0, 0, 0), false, Pstp s.size p e L W J O a b c li)
  else ((pnext s e.toNat W (depthT L) a b c (lazyT L).toNat p.toNat li).1, (pnext s e.toNat W (depthT L) a b c (lazyT L).toNat p.toNat li).2.1, (pnext s e.toNat W (depthT L) a b c (lazyT L).toNat p.toNat li).2.2, 0)
theorem pstep_1 (s : ByteArray) (p e L W J O a b c li : Int) (h : Pask s.size p e L W J O a b c = 0) (h2 : li < 0 ∨ 131072 < li) : Pstep s p e L W J O a b c li = (0, (0, 0, 0, 0), false, 2) := by
  have : Pstp s.size p e L W J O a b c li = 2 := by unfold Pstp; rw [if_neg (by simpa using h), if_pos h2]
  unfold Pstep
  rw [this, if_pos (by decide)]
theorem pstep_2 (s : ByteArray) (p e L W J O a b c li : Int) (h : Pask s.size p e L W J O a b c ≠ 0) : Pstep s p e L W J O a b c li = (0, (0, 0, 0, 0), false, Pask s.size p e L W J O a b c) := by
  have : Pstp s.size p e L W J O a b c li = Pask s.size p e L W J O a b c := by unfold Pstp; rw [if_pos h]
  unfold Pstep
  rw [this, if_pos h]
theorem pstep_3 (s : ByteArray) (p e L W J O a b c li : Int) (h : Pask s.size p e L W J O a b c = 0) (h2 : ¬ (li < 0 ∨ 131072 < li)) : Pstep s p e L W J O a b c li = ((pnext s e.toNat W (depthT L) a b c (lazyT L).toNat p.toNat li).1, (pnext s e.toNat W (depthT L) a b c (lazyT L).toNat p.toNat li).2.1, (pnext s e.toNat W (depthT L) a b c (lazyT L).toNat p.toNat li).2.2, 0) := by
  have : Pstp s.size p e L W J O a b c li = 0 := by unfold Pstp; rw [if_neg (by simpa using h), if_neg h2]
  unfold Pstep
  rw [this, if_neg (by simp)]
/-- The boxes of Step. -/
def SBox (H : Nat) (L W J O a b c : Int) (sy ch : Bool) (w : World) : Prop := Blk w (H) 57 [.int .i64 L, .int .i64 W, .int .i64 J, .int .i64 O, .bool sy, .bool ch] ∧ Blk w (H + 1) 23 [.int .i64 a, .int .i64 b, .int .i64 c] ∧ Blk w (H + 1 + 1) 32 [.int .i64 0, .int .i64 0, .int .i64 0, .int .i64 0]
theorem SBox.later {H : Nat} {L W J O a b c : Int} {sy ch : Bool} {w w' : World} (h : SBox H L W J O a b c sy ch w) (hb : Below w.heap.size w w') : SBox H L W J O a b c sy ch w' :=
  ⟨h.1.later hb, h.2.1.later hb, h.2.2.later hb⟩
def StepPost (R : Nat × (Int × Int × Int × Int) × Bool × Int) (w : World) (en : Ending) (w' : World) : Prop :=
  en = .returned (.tuple #[.int .i64 (R.1 : Nat), .agg #[.int .i64 R.2.1.1, .int .i64 R.2.1.2.1, .int .i64 R.2.1.2.2.1, .int .i64 R.2.1.2.2.2], .bool R.2.2.1, .int .i64 R.2.2.2]) ∧ Below w.heap.size w w'
set_option maxRecDepth 100000 in
set_option maxHeartbeats 8000000 in
theorem step_p_1 (s : ByteArray) (p e L W J O a b c li : Int) (sy ch : Bool) (w : World) (hl : s.size ≤ 9223372036854775807) (h : Pask s.size p e L W J O a b c = 0) (h2 : li < 0 ∨ 131072 < li) :
    Calls Try.prog 45 #[.string s, .int .i64 p, .int .i64 e, .agg #[.int .i64 L, .int .i64 W, .int .i64 J, .int .i64 O, .bool sy, .bool ch], .agg #[.int .i64 a, .int .i64 b, .int .i64 c], .int .i64 li] w (StepPost (0, (0, 0, 0, 0), false, 2) w) := by
  have qC := fun w => checked_p24 s p e L W J O a b c sy ch w hl
  rw [h] at qC
  clear h
  have h3 : decide (li < 0) = true ∨ (decide (li < 0) = false ∧ decide (131072 < li) = true) := by
    by_cases h : li < 0
    · exact .inl (by simpa using h)
    · exact .inr ⟨by simpa using h, by simp; omega⟩
  clear h2
  rcases h3 with e1 | ⟨e1, e2⟩
  · go_enter Try.func45, Try.ntmps45
    go_wp2_with ((go_at_call 67; refine (qC _).mono ?_; rintro e w1 ⟨rfl, hb⟩; have hsz := hb.size; (try simp at hsz); (first | (have hbl := blater2 HA (by first | exact Nat.le_refl _ | (simp; done) | (simp; omega)) hb; obtain ⟨hcc, hff, HA, hne, hne'⟩ := hbl) | (obtain ⟨hcc, hff, HA, hne, hne'⟩ := blater1 hb)); (try simp only [World.size_alloc, World.size_setCell] at HA)))
    repeat' (first | (go_region <;> go_wp2_with ((go_at_call 67; refine (qC _).mono ?_; rintro e w1 ⟨rfl, hb⟩; have hsz := hb.size; (try simp at hsz); (first | (have hbl := blater2 HA (by first | exact Nat.le_refl _ | (simp; done) | (simp; omega)) hb; obtain ⟨hcc, hff, HA, hne, hne'⟩ := hbl) | (obtain ⟨hcc, hff, HA, hne, hne'⟩ := blater1 hb)); (try simp only [World.size_alloc, World.size_setCell] at HA)))))
    all_goals go_light
    all_goals (try simp only [beq_iff_eq, beq_eq_false_iff_ne, bne_iff_ne, bne_eq_false_iff_eq, ne_eq] at *)
    all_goals
      refine bodyPost_ret (v := .tuple #[.int .i64 0, .agg #[.int .i64 0, .int .i64 0, .int .i64 0, .int .i64 0], .bool false, .int .i64 2]) (by simp [results, Try.results45, go_sem, *]) rfl ⟨rfl, ?_⟩
      repeat' (first | exact Below.refl _ _ | refine Below.drew ?_ | refine below_drewN ?_ _ | refine Below.alloc ?_ (by first | omega | (simp <;> omega)) _ | refine Below.setCell ?_ (by first | omega | (simp <;> omega)) _ | refine Below.trans ?_ (Below.mono (by assumption) (by first | omega | (simp <;> omega))))
  · go_enter Try.func45, Try.ntmps45
    go_wp2_with ((go_at_call 67; refine (qC _).mono ?_; rintro e w1 ⟨rfl, hb⟩; have hsz := hb.size; (try simp at hsz); (first | (have hbl := blater2 HA (by first | exact Nat.le_refl _ | (simp; done) | (simp; omega)) hb; obtain ⟨hcc, hff, HA, hne, hne'⟩ := hbl) | (obtain ⟨hcc, hff, HA, hne, hne'⟩ := blater1 hb)); (try simp only [World.size_alloc, World.size_setCell] at HA)))
    repeat' (first | (go_region <;> go_wp2_with ((go_at_call 67; refine (qC _).mono ?_; rintro e w1 ⟨rfl, hb⟩; have hsz := hb.size; (try simp at hsz); (first | (have hbl := blater2 HA (by first | exact Nat.le_refl _ | (simp; done) | (simp; omega)) hb; obtain ⟨hcc, hff, HA, hne, hne'⟩ := hbl) | (obtain ⟨hcc, hff, HA, hne, hne'⟩ := blater1 hb)); (try simp only [World.size_alloc, World.size_setCell] at HA)))))
    all_goals go_light
    all_goals (try simp only [beq_iff_eq, beq_eq_false_iff_ne, bne_iff_ne, bne_eq_false_iff_eq, ne_eq] at *)
    all_goals
      refine bodyPost_ret (v := .tuple #[.int .i64 0, .agg #[.int .i64 0, .int .i64 0, .int .i64 0, .int .i64 0], .bool false, .int .i64 2]) (by simp [results, Try.results45, go_sem, *]) rfl ⟨rfl, ?_⟩
      repeat' (first | exact Below.refl _ _ | refine Below.drew ?_ | refine below_drewN ?_ _ | refine Below.alloc ?_ (by first | omega | (simp <;> omega)) _ | refine Below.setCell ?_ (by first | omega | (simp <;> omega)) _ | refine Below.trans ?_ (Below.mono (by assumption) (by first | omega | (simp <;> omega))))
set_option maxRecDepth 100000 in
set_option maxHeartbeats 8000000 in
theorem step_p_2 (s : ByteArray) (p e L W J O a b c li : Int) (sy ch : Bool) (w : World) (hl : s.size ≤ 9223372036854775807) (h : Pask s.size p e L W J O a b c ≠ 0) :
    Calls Try.prog 45 #[.string s, .int .i64 p, .int .i64 e, .agg #[.int .i64 L, .int .i64 W, .int .i64 J, .int .i64 O, .bool sy, .bool ch], .agg #[.int .i64 a, .int .i64 b, .int .i64 c], .int .i64 li] w (StepPost (0, (0, 0, 0, 0), false, Pask s.size p e L W J O a b c) w) := by
  have qC := fun w => checked_p24 s p e L W J O a b c sy ch w hl
  generalize Pask s.size p e L W J O a b c = E at qC h ⊢
  have h3 : (E != 0) = true := by simpa using h
  have h4 : (E == 0) = false := by simpa using h
  clear h
  go_enter Try.func45, Try.ntmps45
  go_wp2_with ((go_at_call 67; refine (qC _).mono ?_; rintro e w1 ⟨rfl, hb⟩; have hsz := hb.size; (try simp at hsz); (first | (have hbl := blater2 HA (by first | exact Nat.le_refl _ | (simp; done) | (simp; omega)) hb; obtain ⟨hcc, hff, HA, hne, hne'⟩ := hbl) | (obtain ⟨hcc, hff, HA, hne, hne'⟩ := blater1 hb)); (try simp only [World.size_alloc, World.size_setCell] at HA)))
  repeat' (first | (go_region <;> go_wp2_with ((go_at_call 67; refine (qC _).mono ?_; rintro e w1 ⟨rfl, hb⟩; have hsz := hb.size; (try simp at hsz); (first | (have hbl := blater2 HA (by first | exact Nat.le_refl _ | (simp; done) | (simp; omega)) hb; obtain ⟨hcc, hff, HA, hne, hne'⟩ := hbl) | (obtain ⟨hcc, hff, HA, hne, hne'⟩ := blater1 hb)); (try simp only [World.size_alloc, World.size_setCell] at HA)))))
  all_goals go_light
  all_goals (try simp only [beq_iff_eq, beq_eq_false_iff_ne, bne_iff_ne, bne_eq_false_iff_eq, ne_eq] at *)
  all_goals
    refine bodyPost_ret (v := .tuple #[.int .i64 0, .agg #[.int .i64 0, .int .i64 0, .int .i64 0, .int .i64 0], .bool false, .int .i64 E]) (by simp [results, Try.results45, go_sem, *]) rfl ⟨rfl, ?_⟩
    repeat' (first | exact Below.refl _ _ | refine Below.drew ?_ | refine below_drewN ?_ _ | refine Below.alloc ?_ (by first | omega | (simp <;> omega)) _ | refine Below.setCell ?_ (by first | omega | (simp <;> omega)) _ | refine Below.trans ?_ (Below.mono (by assumption) (by first | omega | (simp <;> omega))))
set_option maxRecDepth 100000 in
set_option maxHeartbeats 8000000 in
theorem step_p_3 (s : ByteArray) (p e lz : Nat) (L W J O a b c li : Int) (sy ch : Bool) (w : World) (hs : s.size ≤ 1048576) (h : Pask s.size p e L W J O a b c = 0) (hpk : pOk L W J O) (hpe : p ≤ e) (hes : e ≤ s.size) (hl1 : 0 ≤ li) (hl2 : li ≤ 131072) (hlz : lazyT L = (lz : Int)) (hz : lz ≤ 2) :
    Calls Try.prog 45 #[.string s, .int .i64 (p : Int), .int .i64 (e : Int), .agg #[.int .i64 L, .int .i64 W, .int .i64 J, .int .i64 O, .bool sy, .bool ch], .agg #[.int .i64 a, .int .i64 b, .int .i64 c], .int .i64 li] w (StepPost ((pnext s e W (depthT L) a b c lz p li).1, (pnext s e W (depthT L) a b c lz p li).2.1, (pnext s e W (depthT L) a b c lz p li).2.2, 0) w) := by
  have qC := fun w => checked_p24 s p e L W J O a b c sy ch w (by omega)
  rw [h] at qC
  have e1 : decide (li < 0) = false := by simp; omega
  have e2 : decide (131072 < li) = false := by simp; omega
  have qO := fun w => of_p24 s e L W J O a b c sy ch w hpk
  rw [hlz] at qO
  have qN := fun (bk : Nat) (w : World) h => next_s bk p lz a b c W (depthT L) li s e w hs hpe hes hl1 hl2 hz h
  clear hs h hpk hpe hes hl1 hl2 hlz hz
  generalize pnext s e W (depthT L) a b c lz p li = R at qN ⊢
  generalize depthT L = dp at qO qN
  obtain ⟨q, ⟨m1, m2, m3, m4⟩, fb⟩ := R
  unfold NextPost at qN
  dsimp only at qN
  go_enter Try.func45, Try.ntmps45
  go_wp2_with (first | (go_at_call 67; refine (qC _).mono ?_; rintro en w1 ⟨rfl, hb1⟩; have hN1 : SBox w.heap.size L W J O a b c sy ch w1 := SBox.later ⟨(Blk.alloc (Blk.alloc (by simpa using Blk.new w 57 #[.int .i64 L, .int .i64 W, .int .i64 J, .int .i64 O, .bool sy, .bool ch]) _) _), (Blk.alloc (by simpa using Blk.new (w.alloc (.cells #[.int .i64 L, .int .i64 W, .int .i64 J, .int .i64 O, .bool sy, .bool ch] 57)) 23 #[.int .i64 a, .int .i64 b, .int .i64 c]) _), (by simpa using Blk.new ((w.alloc (.cells #[.int .i64 L, .int .i64 W, .int .i64 J, .int .i64 O, .bool sy, .bool ch] 57)).alloc (.cells #[.int .i64 a, .int .i64 b, .int .i64 c] 23)) 32 #[.int .i64 0, .int .i64 0, .int .i64 0, .int .i64 0])⟩ hb1; have hq1 := hN1; obtain ⟨x01, x11, x21⟩ := hq1; have c001 : w1.cell? ⟨w.heap.size, 0, none⟩ = some (.int .i64 L) := x01.cell 0; have c011 : w1.cell? ⟨w.heap.size, 1, none⟩ = some (.int .i64 W) := x01.cell 1; have c021 : w1.cell? ⟨w.heap.size, 2, none⟩ = some (.int .i64 J) := x01.cell 2; have c031 : w1.cell? ⟨w.heap.size, 3, none⟩ = some (.int .i64 O) := x01.cell 3; have c041 : w1.cell? ⟨w.heap.size, 4, none⟩ = some (.bool sy) := x01.cell 4; have c051 : w1.cell? ⟨w.heap.size, 5, none⟩ = some (.bool ch) := x01.cell 5; have l01 : w.heap.size < w1.heap.size := x01.lt; have c101 : w1.cell? ⟨w.heap.size + 1, 0, none⟩ = some (.int .i64 a) := x11.cell 0; have c111 : w1.cell? ⟨w.heap.size + 1, 1, none⟩ = some (.int .i64 b) := x11.cell 1; have c121 : w1.cell? ⟨w.heap.size + 1, 2, none⟩ = some (.int .i64 c) := x11.cell 2; have l11 : w.heap.size + 1 < w1.heap.size := x11.lt; have c201 : w1.cell? ⟨w.heap.size + 1 + 1, 0, none⟩ = some (.int .i64 0) := x21.cell 0; have c211 : w1.cell? ⟨w.heap.size + 1 + 1, 1, none⟩ = some (.int .i64 0) := x21.cell 1; have c221 : w1.cell? ⟨w.heap.size + 1 + 1, 2, none⟩ = some (.int .i64 0) := x21.cell 2; have c231 : w1.cell? ⟨w.heap.size + 1 + 1, 3, none⟩ = some (.int .i64 0) := x21.cell 3; have l21 : w.heap.size + 1 + 1 < w1.heap.size := x21.lt; have f01 : w1.frozen? ⟨w.heap.size + 1 + 1, 0, none⟩ = false := x21.frozen 0; have f11 : w1.frozen? ⟨w.heap.size + 1 + 1, 1, none⟩ = false := x21.frozen 1; have f21 : w1.frozen? ⟨w.heap.size + 1 + 1, 2, none⟩ = false := x21.frozen 2; have f31 : w1.frozen? ⟨w.heap.size + 1 + 1, 3, none⟩ = false := x21.frozen 3) | (go_at_call 68; refine (qO _).mono ?_; rintro en w2 ⟨bk, rfl, hbk, hK2, hb2⟩; have hN2 := hN1.later hb2) | (go_at_call 77; refine (qN _ _ hK2.work).mono ?_; rintro en w3 ⟨rfl, hb3⟩; have hN3 := hN2.later hb3; have hq3 := hN3; obtain ⟨x03, x13, x23⟩ := hq3; have c003 : w3.cell? ⟨w.heap.size, 0, none⟩ = some (.int .i64 L) := x03.cell 0; have c013 : w3.cell? ⟨w.heap.size, 1, none⟩ = some (.int .i64 W) := x03.cell 1; have c023 : w3.cell? ⟨w.heap.size, 2, none⟩ = some (.int .i64 J) := x03.cell 2; have c033 : w3.cell? ⟨w.heap.size, 3, none⟩ = some (.int .i64 O) := x03.cell 3; have c043 : w3.cell? ⟨w.heap.size, 4, none⟩ = some (.bool sy) := x03.cell 4; have c053 : w3.cell? ⟨w.heap.size, 5, none⟩ = some (.bool ch) := x03.cell 5; have l03 : w.heap.size < w3.heap.size := x03.lt; have c103 : w3.cell? ⟨w.heap.size + 1, 0, none⟩ = some (.int .i64 a) := x13.cell 0; have c113 : w3.cell? ⟨w.heap.size + 1, 1, none⟩ = some (.int .i64 b) := x13.cell 1; have c123 : w3.cell? ⟨w.heap.size + 1, 2, none⟩ = some (.int .i64 c) := x13.cell 2; have l13 : w.heap.size + 1 < w3.heap.size := x13.lt; have c203 : w3.cell? ⟨w.heap.size + 1 + 1, 0, none⟩ = some (.int .i64 0) := x23.cell 0; have c213 : w3.cell? ⟨w.heap.size + 1 + 1, 1, none⟩ = some (.int .i64 0) := x23.cell 1; have c223 : w3.cell? ⟨w.heap.size + 1 + 1, 2, none⟩ = some (.int .i64 0) := x23.cell 2; have c233 : w3.cell? ⟨w.heap.size + 1 + 1, 3, none⟩ = some (.int .i64 0) := x23.cell 3; have l23 : w.heap.size + 1 + 1 < w3.heap.size := x23.lt; have f03 : w3.frozen? ⟨w.heap.size + 1 + 1, 0, none⟩ = false := x23.frozen 0; have f13 : w3.frozen? ⟨w.heap.size + 1 + 1, 1, none⟩ = false := x23.frozen 1; have f23 : w3.frozen? ⟨w.heap.size + 1 + 1, 2, none⟩ = false := x23.frozen 2; have f33 : w3.frozen? ⟨w.heap.size + 1 + 1, 3, none⟩ = false := x23.frozen 3))
  have B3 : Below w.heap.size w w3 := by
    have := hb1.size
    have := hb2.size
    repeat' (first | exact Below.refl _ _ | refine Below.drew ?_ | refine below_drewN ?_ _ | refine Below.alloc ?_ (by first | omega | (simp <;> omega)) _ | refine Below.setCell ?_ (by first | omega | (simp <;> omega)) _ | refine Below.trans ?_ (Below.mono (by assumption) (by first | omega | (simp <;> omega))))
  obtain ⟨W4, hW4⟩ : ∃ W4, ((((w3.setCell ⟨w.heap.size + 1 + 1, 0, none⟩ (.int .i64 m1)).setCell ⟨w.heap.size + 1 + 1, 1, none⟩ (.int .i64 m2)).setCell ⟨w.heap.size + 1 + 1, 2, none⟩ (.int .i64 m3)).setCell ⟨w.heap.size + 1 + 1, 3, none⟩ (.int .i64 m4)) = W4 := ⟨_, rfl⟩
  have B4 : Below w.heap.size w W4 := by
    rw [← hW4]
    exact (((B3.setCell (by simp; omega) _).setCell (by simp; omega) _).setCell (by simp; omega) _).setCell (by simp; omega) _
  have hM4 : Blk W4 (w.heap.size + 1 + 1) 32 [.int .i64 m1, .int .i64 m2, .int .i64 m3, .int .i64 m4] := by
    rw [← hW4]
    exact ((((x23.set 0 _).set 1 _).set 2 _).set 3 _)
  clear c001 c003 c011 c013 c021 c023 c031 c033 c041 c043 c051 c053 c101 c103 c111 c113 c121 c123 c201 c203 c211 c213 c221 c223 c231 c233 l01 x01 l03 x03 l11 x11 l13 x13 l21 x21 l23 x23 f01 f03 f11 f13 f21 f23 f31 f33 qC qO qN hN1 hN2 hN3 hb1 hb2 hb3 hK2 B3
  rw [hW4]
  clear hW4
  have c0 : W4.cell? ⟨w.heap.size + 1 + 1, 0, none⟩ = some (.int .i64 m1) := hM4.cell 0; have c1 : W4.cell? ⟨w.heap.size + 1 + 1, 1, none⟩ = some (.int .i64 m2) := hM4.cell 1; have c2 : W4.cell? ⟨w.heap.size + 1 + 1, 2, none⟩ = some (.int .i64 m3) := hM4.cell 2; have c3 : W4.cell? ⟨w.heap.size + 1 + 1, 3, none⟩ = some (.int .i64 m4) := hM4.cell 3
  have f0 : W4.frozen? ⟨w.heap.size + 1 + 1, 0, none⟩ = false := hM4.frozen 0; have f1 : W4.frozen? ⟨w.heap.size + 1 + 1, 1, none⟩ = false := hM4.frozen 1; have f2 : W4.frozen? ⟨w.heap.size + 1 + 1, 2, none⟩ = false := hM4.frozen 2; have f3 : W4.frozen? ⟨w.heap.size + 1 + 1, 3, none⟩ = false := hM4.frozen 3
  have l4 := hM4.lt
  apply wp_det
  case det =>
    go_region
    all_goals exact ⟨rfl, rfl⟩
  case go =>
    go_wp2
    refine bodyPost_ret (v := .tuple #[.int .i64 (q : Int), .agg #[.int .i64 m1, .int .i64 m2, .int .i64 m3, .int .i64 m4], .bool fb, .int .i64 0]) (by simp [results, Try.results45, go_sem, *]) rfl ⟨rfl, ?_⟩
    repeat' (first | exact Below.refl _ _ | refine Below.drew ?_ | refine below_drewN ?_ _ | refine Below.alloc ?_ (by first | omega | (simp <;> omega)) _ | refine Below.setCell ?_ (by first | omega | (simp <;> omega)) _ | refine Below.trans ?_ (Below.mono (by assumption) (by first | omega | (simp <;> omega))))
theorem step_p (s : ByteArray) (p e L W J O a b c li : Int) (sy ch : Bool) (w : World) (hl : s.size ≤ 9223372036854775807) :
    Calls Try.prog 45 #[.string s, .int .i64 p, .int .i64 e, .agg #[.int .i64 L, .int .i64 W, .int .i64 J, .int .i64 O, .bool sy, .bool ch], .agg #[.int .i64 a, .int .i64 b, .int .i64 c], .int .i64 li] w (StepPost (Pstep s p e L W J O a b c li) w) := by
  by_cases h1 : Pask s.size p e L W J O a b c = 0
  · by_cases h2 : li < 0 ∨ 131072 < li
    · rw [pstep_1 _ _ _ _ _ _ _ _ _ _ _ h1 h2]
      exact step_p_1 s p e L W J O a b c li sy ch w hl h1 h2
    · rw [pstep_3 _ _ _ _ _ _ _ _ _ _ _ h1 h2]
      obtain ⟨o1, o2, o3, o4, o5, o6, o7⟩ := pask_ok h1
      obtain ⟨p, rfl⟩ : ∃ n : Nat, p = (n : Int) := ⟨p.toNat, by omega⟩
      obtain ⟨e, rfl⟩ : ∃ n : Nat, e = (n : Int) := ⟨e.toNat, by omega⟩
      obtain ⟨lz, hlz⟩ : ∃ n : Nat, lazyT L = (n : Int) := ⟨(lazyT L).toNat, by unfold lazyT; split <;> (try split) <;> simp⟩
      have hz : lz ≤ 2 := by
        have : lazyT L ≤ 2 := by unfold lazyT; split <;> (try split) <;> simp
        omega
      rw [show (lazyT L).toNat = lz by omega, Int.toNat_natCast, Int.toNat_natCast]
      exact step_p_3 s p e lz L W J O a b c li sy ch w o2 h1 o1 (by omega) (by omega) (by omega) (by omega) hlz hz
  · rw [pstep_2 _ _ _ _ _ _ _ _ _ _ _ h1]
    exact step_p_2 s p e L W J O a b c li sy ch w hl h1
set_option maxRecDepth 100000 in
set_option maxHeartbeats 8000000 in
theorem rstep_p_1 (s : ByteArray) (p e L W J O a b c li : Int) (sy ch : Bool) (w : World) (hl : s.size ≤ 9223372036854775807) (h : Pask s.size p e L W J O a b c = 0) (h2 : li < 0 ∨ 131072 < li) :
    Calls Try.prog 46 #[.string s, .int .i64 p, .int .i64 e, .agg #[.int .i64 L, .int .i64 W, .int .i64 J, .int .i64 O, .bool sy, .bool ch], .agg #[.int .i64 a, .int .i64 b, .int .i64 c], .int .i64 li] w (StepPost (0, (0, 0, 0, 0), false, 2) w) := by
  have qC := fun w => asked_r24 s p e L W J O a b c sy ch w hl
  rw [h] at qC
  clear h
  have h3 : decide (li < 0) = true ∨ (decide (li < 0) = false ∧ decide (131072 < li) = true) := by
    by_cases h : li < 0
    · exact .inl (by simpa using h)
    · exact .inr ⟨by simpa using h, by simp; omega⟩
  clear h2
  rcases h3 with e1 | ⟨e1, e2⟩
  · go_enter Try.func46, Try.ntmps46
    go_wp2_with ((go_at_call 70; refine (qC _).mono ?_; rintro e w1 ⟨rfl, hb⟩; have hsz := hb.size; (try simp at hsz); (first | (have hbl := blater2 HA (by first | exact Nat.le_refl _ | (simp; done) | (simp; omega)) hb; obtain ⟨hcc, hff, HA, hne, hne'⟩ := hbl) | (obtain ⟨hcc, hff, HA, hne, hne'⟩ := blater1 hb)); (try simp only [World.size_alloc, World.size_setCell] at HA)))
    repeat' (first | (go_region <;> go_wp2_with ((go_at_call 70; refine (qC _).mono ?_; rintro e w1 ⟨rfl, hb⟩; have hsz := hb.size; (try simp at hsz); (first | (have hbl := blater2 HA (by first | exact Nat.le_refl _ | (simp; done) | (simp; omega)) hb; obtain ⟨hcc, hff, HA, hne, hne'⟩ := hbl) | (obtain ⟨hcc, hff, HA, hne, hne'⟩ := blater1 hb)); (try simp only [World.size_alloc, World.size_setCell] at HA)))))
    all_goals go_light
    all_goals (try simp only [beq_iff_eq, beq_eq_false_iff_ne, bne_iff_ne, bne_eq_false_iff_eq, ne_eq] at *)
    all_goals
      refine bodyPost_ret (v := .tuple #[.int .i64 0, .agg #[.int .i64 0, .int .i64 0, .int .i64 0, .int .i64 0], .bool false, .int .i64 2]) (by simp [results, Try.results46, go_sem, *]) rfl ⟨rfl, ?_⟩
      repeat' (first | exact Below.refl _ _ | refine Below.drew ?_ | refine below_drewN ?_ _ | refine Below.alloc ?_ (by first | omega | (simp <;> omega)) _ | refine Below.setCell ?_ (by first | omega | (simp <;> omega)) _ | refine Below.trans ?_ (Below.mono (by assumption) (by first | omega | (simp <;> omega))))
  · go_enter Try.func46, Try.ntmps46
    go_wp2_with ((go_at_call 70; refine (qC _).mono ?_; rintro e w1 ⟨rfl, hb⟩; have hsz := hb.size; (try simp at hsz); (first | (have hbl := blater2 HA (by first | exact Nat.le_refl _ | (simp; done) | (simp; omega)) hb; obtain ⟨hcc, hff, HA, hne, hne'⟩ := hbl) | (obtain ⟨hcc, hff, HA, hne, hne'⟩ := blater1 hb)); (try simp only [World.size_alloc, World.size_setCell] at HA)))
    repeat' (first | (go_region <;> go_wp2_with ((go_at_call 70; refine (qC _).mono ?_; rintro e w1 ⟨rfl, hb⟩; have hsz := hb.size; (try simp at hsz); (first | (have hbl := blater2 HA (by first | exact Nat.le_refl _ | (simp; done) | (simp; omega)) hb; obtain ⟨hcc, hff, HA, hne, hne'⟩ := hbl) | (obtain ⟨hcc, hff, HA, hne, hne'⟩ := blater1 hb)); (try simp only [World.size_alloc, World.size_setCell] at HA)))))
    all_goals go_light
    all_goals (try simp only [beq_iff_eq, beq_eq_false_iff_ne, bne_iff_ne, bne_eq_false_iff_eq, ne_eq] at *)
    all_goals
      refine bodyPost_ret (v := .tuple #[.int .i64 0, .agg #[.int .i64 0, .int .i64 0, .int .i64 0, .int .i64 0], .bool false, .int .i64 2]) (by simp [results, Try.results46, go_sem, *]) rfl ⟨rfl, ?_⟩
      repeat' (first | exact Below.refl _ _ | refine Below.drew ?_ | refine below_drewN ?_ _ | refine Below.alloc ?_ (by first | omega | (simp <;> omega)) _ | refine Below.setCell ?_ (by first | omega | (simp <;> omega)) _ | refine Below.trans ?_ (Below.mono (by assumption) (by first | omega | (simp <;> omega))))
set_option maxRecDepth 100000 in
set_option maxHeartbeats 8000000 in
theorem rstep_p_2 (s : ByteArray) (p e L W J O a b c li : Int) (sy ch : Bool) (w : World) (hl : s.size ≤ 9223372036854775807) (h : Pask s.size p e L W J O a b c ≠ 0) :
    Calls Try.prog 46 #[.string s, .int .i64 p, .int .i64 e, .agg #[.int .i64 L, .int .i64 W, .int .i64 J, .int .i64 O, .bool sy, .bool ch], .agg #[.int .i64 a, .int .i64 b, .int .i64 c], .int .i64 li] w (StepPost (0, (0, 0, 0, 0), false, Pask s.size p e L W J O a b c) w) := by
  have qC := fun w => asked_r24 s p e L W J O a b c sy ch w hl
  generalize Pask s.size p e L W J O a b c = E at qC h ⊢
  have h3 : (E != 0) = true := by simpa using h
  have h4 : (E == 0) = false := by simpa using h
  clear h
  go_enter Try.func46, Try.ntmps46
  go_wp2_with ((go_at_call 70; refine (qC _).mono ?_; rintro e w1 ⟨rfl, hb⟩; have hsz := hb.size; (try simp at hsz); (first | (have hbl := blater2 HA (by first | exact Nat.le_refl _ | (simp; done) | (simp; omega)) hb; obtain ⟨hcc, hff, HA, hne, hne'⟩ := hbl) | (obtain ⟨hcc, hff, HA, hne, hne'⟩ := blater1 hb)); (try simp only [World.size_alloc, World.size_setCell] at HA)))
  repeat' (first | (go_region <;> go_wp2_with ((go_at_call 70; refine (qC _).mono ?_; rintro e w1 ⟨rfl, hb⟩; have hsz := hb.size; (try simp at hsz); (first | (have hbl := blater2 HA (by first | exact Nat.le_refl _ | (simp; done) | (simp; omega)) hb; obtain ⟨hcc, hff, HA, hne, hne'⟩ := hbl) | (obtain ⟨hcc, hff, HA, hne, hne'⟩ := blater1 hb)); (try simp only [World.size_alloc, World.size_setCell] at HA)))))
  all_goals go_light
  all_goals (try simp only [beq_iff_eq, beq_eq_false_iff_ne, bne_iff_ne, bne_eq_false_iff_eq, ne_eq] at *)
  all_goals
    refine bodyPost_ret (v := .tuple #[.int .i64 0, .agg #[.int .i64 0, .int .i64 0, .int .i64 0, .int .i64 0], .bool false, .int .i64 E]) (by simp [results, Try.results46, go_sem, *]) rfl ⟨rfl, ?_⟩
    repeat' (first | exact Below.refl _ _ | refine Below.drew ?_ | refine below_drewN ?_ _ | refine Below.alloc ?_ (by first | omega | (simp <;> omega)) _ | refine Below.setCell ?_ (by first | omega | (simp <;> omega)) _ | refine Below.trans ?_ (Below.mono (by assumption) (by first | omega | (simp <;> omega))))
set_option maxRecDepth 100000 in
set_option maxHeartbeats 8000000 in
theorem rstep_p_3 (s : ByteArray) (p e lz : Nat) (L W J O a b c li : Int) (sy ch : Bool) (w : World) (hs : s.size ≤ 1048576) (h : Pask s.size p e L W J O a b c = 0) (hpk : pOk L W J O) (hpe : p ≤ e) (hes : e ≤ s.size) (hl1 : 0 ≤ li) (hl2 : li ≤ 131072) (hlz : lazyT L = (lz : Int)) (hz : lz ≤ 2) :
    Calls Try.prog 46 #[.string s, .int .i64 (p : Int), .int .i64 (e : Int), .agg #[.int .i64 L, .int .i64 W, .int .i64 J, .int .i64 O, .bool sy, .bool ch], .agg #[.int .i64 a, .int .i64 b, .int .i64 c], .int .i64 li] w (StepPost ((pnext s e W (depthT L) a b c lz p li).1, (pnext s e W (depthT L) a b c lz p li).2.1, (pnext s e W (depthT L) a b c lz p li).2.2, 0) w) := by
  have qC := fun w => asked_r24 s p e L W J O a b c sy ch w (by omega)
  rw [h] at qC
  have e1 : decide (li < 0) = false := by simp; omega
  have e2 : decide (131072 < li) = false := by simp; omega
  have qN := fun w => rstep_s s p e L W J O a b c li sy ch w hs hpk hpe hes hl1 hl2 lz hlz hz
  clear hs h hpk hpe hes hl1 hl2 hlz hz
  generalize pnext s e W (depthT L) a b c lz p li = R at qN ⊢
  obtain ⟨q, ⟨m1, m2, m3, m4⟩, fb⟩ := R
  unfold NextPost at qN
  dsimp only at qN
  go_enter Try.func46, Try.ntmps46
  go_wp2_with (first | (go_at_call 70; refine (qC _).mono ?_; rintro e w1 ⟨rfl, hb⟩; have hsz := hb.size; (try simp at hsz); (first | (have hbl := blater2 HA (by first | exact Nat.le_refl _ | (simp; done) | (simp; omega)) hb; obtain ⟨hcc, hff, HA, hne, hne'⟩ := hbl) | (obtain ⟨hcc, hff, HA, hne, hne'⟩ := blater1 hb)); (try simp only [World.size_alloc, World.size_setCell] at HA)) | (go_at_call 71; refine (qN _).mono ?_; rintro en w3 ⟨rfl, hb3⟩; have hsz := hb3.size; (try simp at hsz); (first | (have hbl := blater2 HA (by first | exact Nat.le_refl _ | (simp; done) | (simp; omega)) hb3; obtain ⟨hcc, hff, HA, hne, hne'⟩ := hbl) | (obtain ⟨hcc, hff, HA, hne, hne'⟩ := blater1 hb3)); (try simp only [World.size_alloc, World.size_setCell] at HA)))
  repeat' (first | (go_region <;> go_wp2_with (first | (go_at_call 70; refine (qC _).mono ?_; rintro e w1 ⟨rfl, hb⟩; have hsz := hb.size; (try simp at hsz); (first | (have hbl := blater2 HA (by first | exact Nat.le_refl _ | (simp; done) | (simp; omega)) hb; obtain ⟨hcc, hff, HA, hne, hne'⟩ := hbl) | (obtain ⟨hcc, hff, HA, hne, hne'⟩ := blater1 hb)); (try simp only [World.size_alloc, World.size_setCell] at HA)) | (go_at_call 71; refine (qN _).mono ?_; rintro en w3 ⟨rfl, hb3⟩; have hsz := hb3.size; (try simp at hsz); (first | (have hbl := blater2 HA (by first | exact Nat.le_refl _ | (simp; done) | (simp; omega)) hb3; obtain ⟨hcc, hff, HA, hne, hne'⟩ := hbl) | (obtain ⟨hcc, hff, HA, hne, hne'⟩ := blater1 hb3)); (try simp only [World.size_alloc, World.size_setCell] at HA)))))
  all_goals go_light
  all_goals
    refine bodyPost_ret (v := .tuple #[.int .i64 (q : Int), .agg #[.int .i64 m1, .int .i64 m2, .int .i64 m3, .int .i64 m4], .bool fb, .int .i64 0]) (by simp [results, Try.results46, go_sem, *]) rfl ⟨rfl, ?_⟩
    repeat' (first | exact Below.refl _ _ | refine Below.drew ?_ | refine below_drewN ?_ _ | refine Below.alloc ?_ (by first | omega | (simp <;> omega)) _ | refine Below.setCell ?_ (by first | omega | (simp <;> omega)) _ | refine Below.trans ?_ (Below.mono (by assumption) (by first | omega | (simp <;> omega))))
theorem rstep_p (s : ByteArray) (p e L W J O a b c li : Int) (sy ch : Bool) (w : World) (hl : s.size ≤ 9223372036854775807) :
    Calls Try.prog 46 #[.string s, .int .i64 p, .int .i64 e, .agg #[.int .i64 L, .int .i64 W, .int .i64 J, .int .i64 O, .bool sy, .bool ch], .agg #[.int .i64 a, .int .i64 b, .int .i64 c], .int .i64 li] w (StepPost (Pstep s p e L W J O a b c li) w) := by
  by_cases h1 : Pask s.size p e L W J O a b c = 0
  · by_cases h2 : li < 0 ∨ 131072 < li
    · rw [pstep_1 _ _ _ _ _ _ _ _ _ _ _ h1 h2]
      exact rstep_p_1 s p e L W J O a b c li sy ch w hl h1 h2
    · rw [pstep_3 _ _ _ _ _ _ _ _ _ _ _ h1 h2]
      obtain ⟨o1, o2, o3, o4, o5, o6, o7⟩ := pask_ok h1
      obtain ⟨p, rfl⟩ : ∃ n : Nat, p = (n : Int) := ⟨p.toNat, by omega⟩
      obtain ⟨e, rfl⟩ : ∃ n : Nat, e = (n : Int) := ⟨e.toNat, by omega⟩
      obtain ⟨lz, hlz⟩ : ∃ n : Nat, lazyT L = (n : Int) := ⟨(lazyT L).toNat, by unfold lazyT; split <;> (try split) <;> simp⟩
      have hz : lz ≤ 2 := by
        have : lazyT L ≤ 2 := by unfold lazyT; split <;> (try split) <;> simp
        omega
      rw [show (lazyT L).toNat = lz by omega, Int.toNat_natCast, Int.toNat_natCast]
      exact rstep_p_3 s p e lz L W J O a b c li sy ch w o2 h1 o1 (by omega) (by omega) (by omega) (by omega) hlz hz
  · rw [pstep_2 _ _ _ _ _ _ _ _ _ _ _ h1]
    exact rstep_p_2 s p e L W J O a b c li sy ch w hl h1
end Go.Proofs.Ytammacofhdbgcaa
