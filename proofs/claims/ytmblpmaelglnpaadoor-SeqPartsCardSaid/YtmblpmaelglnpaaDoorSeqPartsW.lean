/-
  SeqParts: the statement's function, walked.
-/
import Derived.Test.YtmblpmaelglnpaaDoorRows
import Derived.Test.YtmblpmaelglnpaaDoorSeqLaw1
import Derived.Test.YtmblpmaelglnpaaDoorSeqPartsPlain
import Derived.Test.YtmblpmaelglnpaaDoorSeqNeeds
import Derived.Test.YtmblpmaelglnpaaDoorGBase
import Derived.Deep.Light
import Derived.Shelf.Abstract
import Derived.Shelf.RegionOpen
import Derived.OwnWalkIn
import Derived.TacticsInMore
import Derived.LoopNIn
import Derived.LoopIn
import Derived.Deep.RegionHeld3
import Derived.Deep.CutBlock
import Derived.Maps.OwnIn
import Derived.Outline
import Derived.IntWalk
import Derived.WalkMore
import Derived.Laws.BytesArg
import Derived.ProofKit
import Derived.Deep.Slices
import Derived.Deep.Fields
import Derived.OpenShut
namespace Go.Proofs.YtmblpmaelglnpaaDoor
open Go.RowKit
set_option linter.unusedSimpArgs false
set_option linter.unusedVariables false
open Go.Shelf Go.ChangeShapes Go.WideShapes Go.ChangeAt Go.Deep
attribute [local go_sem] eq23 Oper.semAt_some
theorem RowQ.take {w : World} {a : Option Addr} {qs : List (Int × Int × Int)} (h : RowQ w a qs) (k : Nat) : RowQ w a (qs.take k) := by
  rcases h with rfl | ⟨b, off, ha, hlt, hc⟩
  · exact .inl (by simp)
  · refine .inr ⟨b, off, ha, hlt, fun i hi => ?_⟩
    have hi2 : i < k ∧ i < qs.length := by rw [List.length_take] at hi; omega
    have e : (qs.take k).getD i (0, 0, 0) = qs.getD i (0, 0, 0) := by simp [List.getD_eq_getElem?_getD, List.getElem?_take, hi2.1]
    rw [e]
    exact hc i hi2.2
/-- The address of what is left behind k elements. -/
def slf (a : Option Addr) (k c : Nat) : Option Addr := if c = k then a else a.map (·.add (k * 3))
theorem RowQ.drop {w : World} {a : Option Addr} {qs : List (Int × Int × Int)} (h : RowQ w a qs) (k c : Nat) (hc : qs.length ≤ c) : RowQ w (slf a k c) (qs.drop k) := by
  by_cases hk : qs.length ≤ k
  · exact .inl (List.drop_eq_nil_of_le hk)
  · rcases h with rfl | ⟨b, off, rfl, hlt, hcl⟩
    · simp at hk
    · refine .inr ⟨b, off + k * 3, by unfold slf; rw [if_neg (by omega)]; simp [Addr.add], hlt, fun i hi => ?_⟩
      rw [List.length_drop] at hi
      have e : (qs.drop k).getD i (0, 0, 0) = qs.getD (k + i) (0, 0, 0) := by simp [List.getD_eq_getElem?_getD]
      rw [e, show off + k * 3 + i * 3 = off + (k + i) * 3 by omega]
      exact hcl (k + i) (by omega)
set_option maxRecDepth 100000 in
theorem sizeSeq (w : World) : (sizeOf 35).run Tryd.prog w = .ok 3 w := by kernel_rfl
set_option maxRecDepth 100000 in
theorem sl_to (w : World) (a : Option Addr) (n c m : Nat) (h : m ≤ c) : (Instr.slice 22 (.slice a n c) none (some (.int .i64 (m : Int))) none).run Tryd.prog w = .ok (.slice a m c) w :=
  run_slice_to w 22 35 Tryd.underlying22 3 (sizeSeq w) a n c m h
set_option maxRecDepth 100000 in
theorem sl_from (w : World) (a : Option Addr) (n c m : Nat) (h : m ≤ n) : (Instr.slice 22 (.slice a n c) (some (.int .i64 (m : Int))) none none).run Tryd.prog w = .ok (.slice (slf a m c) (n - m) (c - m)) w := by
  have hu : Tryd.prog.underlying 22 = some (.slice (Tryd.prog.elem 22)) := by kernel_rfl
  have he : Tryd.prog.elem 22 = 35 := by kernel_rfl
  rw [run_slice_l w 22 a n c hu .i64 (m : Int) (by omega) (by omega), he, sizeSeq]
  rfl


set_option maxRecDepth 100000 in
theorem open_qc {H : Type} {enc : TypeId × Value → H} {w : World} {base : Nat} {held : Bool} {r : Reach} {b0 : Nat} {v : Value} {d : DataW H} {p : List MemPlace}
    (hv : Value.okWide Tryd.prog w r b0 22 v) (h : DataW.Trod enc Tryd.prog w base (fun _ => true) held 22 v d p) :
    ∃ (a : Option Addr) (qs : List (Int × Int × Int)) (cap : Nat), v = .slice a qs.length cap ∧ RowQ w a qs ∧ qs.length ≤ maxLen ∧ qs.length ≤ cap := by
  obtain ⟨a, qs, cap, rfl, hq, hm⟩ := open_qs hv h
  refine ⟨a, qs, cap, rfl, hq, hm, ?_⟩
  obtain ⟨fuel, hf⟩ := h
  rcases open_slice Tryd.underlying22 hf with ⟨hcs, _⟩ | ⟨x, l, c, m, n, D, Pl, hcs, _, hl, _⟩
  · simp [Value.cells] at hcs
    rw [hcs.2.1]
    simp
  · simp [Value.cells] at hcs
    omega
set_option maxRecDepth 100000 in
set_option maxHeartbeats 8000000 in
theorem seqParts_1 (pq : Option Addr) (qs : List (Int × Int × Int)) (cq : Nat) (lits before : ByteArray) (p : Int) (w : World) (hq : RowQ w pq qs) (hm : qs.length ≤ 9223372036854775807) (hcap : qs.length ≤ cq) (hl : lits.size ≤ 9223372036854775807) (hbf : before.size ≤ 9223372036854775807) (hg : w.cell? ⟨0, 0, none⟩ = some (.iface 165 (.agg #[.pointer (some ⟨9, 74, none⟩)]))) (h1 : lightB qs = true) (h2 : ¬ 300 < lits.size) (h3 : ¬ 300 < before.size) :
    Calls Tryd.prog 5 #[.slice pq qs.length cq, .string lits, .string before, .int .i64 p] w fun e w' => e = .returned (.bool true) ∧ Below w.heap.size w w' := by
  have hl0 : 0 < w.heap.size := World.block_lt_of_cell? w ⟨0, 0, none⟩ hg
  have qL := fun w h => light_p pq qs cq w h hm
  rw [h1] at qL
  have e2 : decide ((300 : Int) < (lits.size : Int)) = false := by simp; omega
  have e3 : decide ((300 : Int) < (before.size : Int)) = false := by simp; omega
  have qP1 := fun w h hg => pexec_p pq qs cq lits before 1 4 8 1048576 w h hm hl hbf hg
  by_cases he : (Rexec qs lits before 1 4 8 1048576).2.2 = 0
  · obtain ⟨hs, hsz⟩ := rexec_size he
    have hn98 := (schk_get hs).1
    obtain ⟨k, hk, hkl⟩ : ∃ k : Nat, p % ((qs.length : Int) + 1) = (k : Int) ∧ k ≤ qs.length := ⟨(p % ((qs.length : Int) + 1)).toNat, by have := Int.emod_nonneg p (b := (qs.length : Int) + 1) (by omega); omega, by have := Int.emod_lt_of_pos p (b := (qs.length : Int) + 1) (by omega); have := Int.emod_nonneg p (b := (qs.length : Int) + 1) (by omega); omega⟩
    obtain ⟨H, A, B, x, y, z, hH, hHl, hRk, hA, hB, hAB, hAs⟩ := rexec_parts he (by omega) k hkl
    have qM := fun w => modK p ((qs.length : Int) + 1) (by omega) (by omega) w
    rw [hk] at qM
    have qN := fun w h => length_p pq qs cq w h hm
    have qT := fun w h => lits_p pq qs cq w h hm
    have hkt : (qs.take k).length = k := by rw [List.length_take]; omega
    have hkd : (qs.drop k).length = qs.length - k := List.length_drop
    have qTk := fun w h => lits_p pq (qs.take k) cq w h (by omega)
    have qE1 := fun w h hg => pexec_p pq (qs.take k) cq (lits.extract 0 H) before 1 4 8 1048576 w h (by omega) (by rw [ByteArray.size_extract]; omega) hbf hg
    have qE2 := fun w h hg => pexec_p (slf pq k cq) (qs.drop k) (cq - k) (lits.extract H lits.size) (before ++ A) x y z 1048576 w h (by omega) (by rw [ByteArray.size_extract]; omega) (by rw [ByteArray.size_append]; omega) hg
    rw [hRk] at qTk
    rw [hA] at qE1
    rw [hB] at qE2
    rw [hkt] at qTk qE1
    rw [hkd] at qE2
    obtain ⟨b1, b2, b3, b4⟩ := lmS_bd hs qs.length (Nat.le_refl _)
    unfold Rlen at qN
    unfold Rlits at qT
    rw [if_neg (by simpa using hs)] at qN qT
    generalize lS qs qs.length = LS at qN qT hsz b1 b2
    generalize mS qs qs.length = MS at qN hsz b3 b4
    generalize Rexec qs lits before 1 4 8 1048576 = R at qP1 qE2 hsz he hAB
    obtain ⟨out, ⟨x1, y1, z1⟩, er⟩ := R
    dsimp only at qP1 qN qT qTk qE1 qE2 hsz he hAB
    subst he
    have a1 : IntKind.i64.wrap (LS + MS + (lits.size : Int)) = LS + MS + (lits.size : Int) := IntWalk.i64_in _ (by omega)
    have a2 : IntKind.i64.wrap (LS + MS + (lits.size : Int) - LS) = (out.size : Int) := by rw [IntWalk.i64_in _ (by omega)]; omega
    have a3 : IntKind.i64.wrap ((qs.length : Int) + 1) = (qs.length : Int) + 1 := IntWalk.i64_in _ (by omega)
    have a4 : decide ((lits.size : Int) < (H : Int)) = false := by simp; omega
    have a5 : decide (lits.size < H) = false := by simp; omega
    have hto := fun W => sl_to W pq qs.length cq k (by omega)
    have hfr := fun W => sl_from W pq qs.length cq k hkl
    have hca : ∀ X, (Op.stringOp .add before A).run Tryd.prog X = .ok (.string (before ++ A)) X := fun X => run_string_add_sum X _ _ (by omega)
    have hcb : ∀ X, (Op.stringOp .add A B).run Tryd.prog X = .ok (.string out) X := fun X => by
      rw [← hAB]
      have : A.size + B.size ≤ 9223372036854775807 := by
        have := congrArg ByteArray.size hAB
        rw [ByteArray.size_append] at this
        omega
      exact run_string_add_sum X _ _ (by omega)
    have i0 : (0 : Int) ≤ (H : Int) := by omega
    have i1 : (H : Int) ≤ (lits.size : Int) := by omega
    have i2 : (0 : Int) ≤ (k : Int) := by omega
    have i3 : (k : Int) ≤ (qs.length : Int) := by omega
    have hqT := hq.take k
    have hqD := hq.drop k cq hcap
    clear hk hs hH hRk hA hB hAs hsz hm hl hbf hcap hAB h1 b1 b2 b3 b4 hn98
    go_enter Tryd.func5, Tryd.ntmps5
    go_upto_region 4 with (first | (go_at_call 16; refine (awake_p20 _ (by refine ((show Below w.heap.size w _ by repeat' (first | with_reducible exact Below.refl _ _ | with_reducible refine Below.drew ?_ | with_reducible refine below_drewN ?_ _ | with_reducible refine Below.alloc ?_ (by first | omega | (simp <;> omega)) _ | with_reducible refine Below.setCell ?_ (by first | omega | (dsimp only; omega) | (simp <;> omega)) _ | with_reducible refine Below.trans ?_ (Below.mono (by assumption) (by first | omega | (simp <;> omega))))).cell (p := ⟨0, 0, none⟩) hl0).trans hg)).mono ?_; rintro en wa ⟨rfl, hba⟩; have hsz := hba.size; (try simp at hsz); (first | (have hbl := blater2 HA (by first | exact Nat.le_refl _ | (simp; done) | (simp; omega)) hba; obtain ⟨hcc, hff, HA, hne, hne'⟩ := hbl) | (obtain ⟨hcc, hff, HA, hne, hne'⟩ := blater1 hba)); (try simp only [World.size_alloc, World.size_setCell] at HA)) | (go_at_call 15; refine (qL _ (hq.later (by repeat' (first | with_reducible exact Below.refl _ _ | with_reducible refine Below.drew ?_ | with_reducible refine below_drewN ?_ _ | with_reducible refine Below.alloc ?_ (by first | omega | (simp <;> omega)) _ | with_reducible refine Below.setCell ?_ (by first | omega | (dsimp only; omega) | (simp <;> omega)) _ | with_reducible refine Below.trans ?_ (Below.mono (by assumption) (by first | omega | (simp <;> omega))))))).mono ?_; rintro en wl ⟨rfl, hbl⟩; have hsl := hbl.size) | (go_at_call 20; refine (first_s20 _).mono ?_; rintro en w1 ⟨rfl, hb1⟩; have hs1 := hb1.size) | (go_at_call 17; (with_reducible refine (qP1 _ (hq.later ?_) ?_).mono ?_); (case refine_1 => (repeat' (first | with_reducible exact Below.refl _ _ | with_reducible refine Below.drew ?_ | with_reducible refine below_drewN ?_ _ | with_reducible refine Below.alloc ?_ (by first | omega | (simp <;> omega)) _ | with_reducible refine Below.setCell ?_ (by first | omega | (dsimp only; omega) | (simp <;> omega)) _ | with_reducible refine Below.trans ?_ (Below.mono (by assumption) (by first | omega | (simp <;> omega)))))); (case refine_2 => (refine ((show Below w.heap.size w _ by repeat' (first | with_reducible exact Below.refl _ _ | with_reducible refine Below.drew ?_ | with_reducible refine below_drewN ?_ _ | with_reducible refine Below.alloc ?_ (by first | omega | (simp <;> omega)) _ | with_reducible refine Below.setCell ?_ (by first | omega | (dsimp only; omega) | (simp <;> omega)) _ | with_reducible refine Below.trans ?_ (Below.mono (by assumption) (by first | omega | (simp <;> omega))))).cell (p := ⟨0, 0, none⟩) hl0).trans hg)); rintro en w2 ⟨rfl, hb2⟩; have hs2 := hb2.size))
    obtain ⟨W3, hW3⟩ : ∃ W3, w2.alloc (.cells #[.int .i64 x1, .int .i64 y1, .int .i64 z1] 24) = W3 := ⟨_, rfl⟩
    have B3 : Below w.heap.size w W3 := by rw [← hW3]; repeat' (first | with_reducible exact Below.refl _ _ | with_reducible refine Below.drew ?_ | with_reducible refine below_drewN ?_ _ | with_reducible refine Below.alloc ?_ (by first | omega | (simp <;> omega)) _ | with_reducible refine Below.setCell ?_ (by first | omega | (dsimp only; omega) | (simp <;> omega)) _ | with_reducible refine Below.trans ?_ (Below.mono (by assumption) (by first | omega | (simp <;> omega))))
    have bO : Blk W3 w2.heap.size 24 [.int .i64 x1, .int .i64 y1, .int .i64 z1] := by rw [← hW3]; exact Blk.new w2 24 #[.int .i64 x1, .int .i64 y1, .int .i64 z1]
    obtain ⟨BO, hBO⟩ : ∃ x, w2.heap.size = x := ⟨_, rfl⟩
    rw [hBO] at bO ⊢
    rw [hW3]
    have hs3 := B3.size
    have hq3 := hq.later B3
    have hqt := hqT.later B3
    have hqd := hqD.later B3
    clear hW3 hBO hb2 hb1 hbl hs1 hs2 hsl hq hqT hqD qL qP1
    go_upto_region 14 with (first | (go_at_call 23; refine (qN _ (hq3.later (by repeat' (first | with_reducible exact Below.refl _ _ | with_reducible refine Below.drew ?_ | with_reducible refine below_drewN ?_ _ | with_reducible refine Below.alloc ?_ (by first | omega | (simp <;> omega)) _ | with_reducible refine Below.setCell ?_ (by first | omega | (dsimp only; omega) | (simp <;> omega)) _ | with_reducible refine Below.trans ?_ (Below.mono (by assumption) (by first | omega | (simp <;> omega))))))).mono ?_; rintro en w4 ⟨rfl, hb4⟩; have hs4 := hb4.size) | (go_at_call 24; (with_reducible refine (qT _ (hq3.later ?_)).mono ?_); (case refine_1 => (repeat' (first | with_reducible exact Below.refl _ _ | with_reducible refine Below.drew ?_ | with_reducible refine below_drewN ?_ _ | with_reducible refine Below.alloc ?_ (by first | omega | (simp <;> omega)) _ | with_reducible refine Below.setCell ?_ (by first | omega | (dsimp only; omega) | (simp <;> omega)) _ | with_reducible refine Below.trans ?_ (Below.mono (by assumption) (by first | omega | (simp <;> omega)))))); rintro en w5 ⟨rfl, hb5⟩; have hs5 := hb5.size) | (go_at_call 24; (with_reducible refine (qTk _ (hqt.later ?_)).mono ?_); (case refine_1 => (repeat' (first | with_reducible exact Below.refl _ _ | with_reducible refine Below.drew ?_ | with_reducible refine below_drewN ?_ _ | with_reducible refine Below.alloc ?_ (by first | omega | (simp <;> omega)) _ | with_reducible refine Below.setCell ?_ (by first | omega | (dsimp only; omega) | (simp <;> omega)) _ | with_reducible refine Below.trans ?_ (Below.mono (by assumption) (by first | omega | (simp <;> omega)))))); rintro en w7 ⟨rfl, hb7⟩; have hs7 := hb7.size) | (go_at_call 21; refine (qM _).mono ?_; rintro en w6 ⟨rfl, hb6⟩; have hs6 := hb6.size))
    have B37 : Below W3.heap.size W3 w7 := by repeat' (first | with_reducible exact Below.refl _ _ | with_reducible refine Below.drew ?_ | with_reducible refine below_drewN ?_ _ | with_reducible refine Below.alloc ?_ (by first | omega | (simp <;> omega)) _ | with_reducible refine Below.setCell ?_ (by first | omega | (dsimp only; omega) | (simp <;> omega)) _ | with_reducible refine Below.trans ?_ (Below.mono (by assumption) (by first | omega | (simp <;> omega))))
    have B7 : Below w.heap.size w w7 := B3.trans (B37.mono hs3)
    have bO7 := bO.later B37
    have hqt7 := hqt.later B37
    have hqd7 := hqd.later B37
    have hg7 : w7.cell? ⟨0, 0, none⟩ = some (.iface 165 (.agg #[.pointer (some ⟨9, 74, none⟩)])) := (B7.cell (p := ⟨0, 0, none⟩) hl0).trans hg
    have hl7 : 0 < w7.heap.size := by have := B7.size; omega
    have hs7' := B7.size
    clear hb4 hb5 hb6 hb7 hs4 hs5 hs6 hs7 hqt hqd bO hq3 B37 qN qT qTk qM B3
    go_cut [11, 19, 20] from 100 to 112 (fun s11 s19 s20 wx => s11 = .int .i64 0 ∧ ∃ BX : Nat, s19 = .string A ∧ s20 = .pointer (some ⟨BX, 0, none⟩) ∧ Blk wx BX 24 [.int .i64 x, .int .i64 y, .int .i64 z] ∧ Below w7.heap.size w7 wx)
    case first =>
      clear bO7 hqd7 hfr qE2 hca hcb a1 a2 a3 a4
      go_region_held3 (fun _ => True) (exact trivial) (first | (go_at_call 20; refine (first_s20 _).mono ?_; rintro en w8 ⟨rfl, hb8⟩; have hs8 := hb8.size; have hsz := hb8.size; (try simp at hsz); (first | (have hbl := blater2 HA (by first | exact Nat.le_refl _ | (simp; done) | (simp; omega)) hb8; obtain ⟨hcc, hff, HA, hne, hne'⟩ := hbl) | (obtain ⟨hcc, hff, HA, hne, hne'⟩ := blater1 hb8)); (try simp only [World.size_alloc, World.size_setCell] at HA); (try (have u0 := hb8.cell (p := ⟨w7.heap.size, 0, none⟩) (by first | (simp; done) | (simp; omega)); (try simp [go_sem] at u0))); (try (have v0 := hb8.frozen (p := ⟨w7.heap.size, 0, none⟩) (by first | (simp; done) | (simp; omega)); (try simp [go_sem] at v0))); (try (have u1 := hb8.cell (p := ⟨w7.heap.size, 1, none⟩) (by first | (simp; done) | (simp; omega)); (try simp [go_sem] at u1))); (try (have v1 := hb8.frozen (p := ⟨w7.heap.size, 1, none⟩) (by first | (simp; done) | (simp; omega)); (try simp [go_sem] at v1))); (try (have u2 := hb8.cell (p := ⟨w7.heap.size, 2, none⟩) (by first | (simp; done) | (simp; omega)); (try simp [go_sem] at u2))); (try (have v2 := hb8.frozen (p := ⟨w7.heap.size, 2, none⟩) (by first | (simp; done) | (simp; omega)); (try simp [go_sem] at v2)))) | (go_at_call 17; refine (qE1 _ (hqt7.later (by repeat' (first | with_reducible exact Below.refl _ _ | with_reducible refine Below.drew ?_ | with_reducible refine below_drewN ?_ _ | with_reducible refine Below.alloc ?_ (by first | omega | (simp <;> omega)) _ | with_reducible refine Below.setCell ?_ (by first | omega | (dsimp only; omega) | (simp <;> omega)) _ | with_reducible refine Below.trans ?_ (Below.mono (by assumption) (by first | omega | (simp <;> omega)))))) (by refine ((show Below w7.heap.size w7 _ by repeat' (first | with_reducible exact Below.refl _ _ | with_reducible refine Below.drew ?_ | with_reducible refine below_drewN ?_ _ | with_reducible refine Below.alloc ?_ (by first | omega | (simp <;> omega)) _ | with_reducible refine Below.setCell ?_ (by first | omega | (dsimp only; omega) | (simp <;> omega)) _ | with_reducible refine Below.trans ?_ (Below.mono (by assumption) (by first | omega | (simp <;> omega))))).cell (p := ⟨0, 0, none⟩) hl7).trans hg7)).mono ?_; rintro en w9 ⟨rfl, hb9⟩; have hsz := hb9.size; (try simp at hsz); (first | (have hbl := blater2 HA (by first | exact Nat.le_refl _ | (simp; done) | (simp; omega)) hb9; obtain ⟨hcc, hff, HA, hne, hne'⟩ := hbl) | (obtain ⟨hcc, hff, HA, hne, hne'⟩ := blater1 hb9)); (try simp only [World.size_alloc, World.size_setCell] at HA); (first | (have t0 := (hb9.cell (p := ⟨w7.heap.size, 0, none⟩) (by first | (simp; done) | (simp; omega))).trans u0; have r0 := (hb9.frozen (p := ⟨w7.heap.size, 0, none⟩) (by first | (simp; done) | (simp; omega))).trans v0) | (have t0 := hb9.cell (p := ⟨w8.heap.size, 0, none⟩) (by first | (simp; done) | (simp; omega)); (try simp [go_sem] at t0); have r0 := hb9.frozen (p := ⟨w8.heap.size, 0, none⟩) (by first | (simp; done) | (simp; omega)); (try simp [go_sem] at r0)) | skip); (first | (have t1 := (hb9.cell (p := ⟨w7.heap.size, 1, none⟩) (by first | (simp; done) | (simp; omega))).trans u1; have r1 := (hb9.frozen (p := ⟨w7.heap.size, 1, none⟩) (by first | (simp; done) | (simp; omega))).trans v1) | (have t1 := hb9.cell (p := ⟨w8.heap.size, 1, none⟩) (by first | (simp; done) | (simp; omega)); (try simp [go_sem] at t1); have r1 := hb9.frozen (p := ⟨w8.heap.size, 1, none⟩) (by first | (simp; done) | (simp; omega)); (try simp [go_sem] at r1)) | skip); (first | (have t2 := (hb9.cell (p := ⟨w7.heap.size, 2, none⟩) (by first | (simp; done) | (simp; omega))).trans u2; have r2 := (hb9.frozen (p := ⟨w7.heap.size, 2, none⟩) (by first | (simp; done) | (simp; omega))).trans v2) | (have t2 := hb9.cell (p := ⟨w8.heap.size, 2, none⟩) (by first | (simp; done) | (simp; omega)); (try simp [go_sem] at t2); have r2 := hb9.frozen (p := ⟨w8.heap.size, 2, none⟩) (by first | (simp; done) | (simp; omega)); (try simp [go_sem] at r2)) | skip)))
      all_goals (go_wp2_with fail; go_meet; go_light)
      · refine ⟨rfl, _, rfl, rfl, Blk.new _ _ _, ?_⟩
        repeat' (first | with_reducible exact Below.refl _ _ | with_reducible refine Below.drew ?_ | with_reducible refine below_drewN ?_ _ | with_reducible refine Below.alloc ?_ (by first | omega | (simp <;> omega)) _ | with_reducible refine Below.setCell ?_ (by first | omega | (dsimp only; omega) | (simp <;> omega)) _ | with_reducible refine Below.trans ?_ (Below.mono (by assumption) (by first | omega | (simp <;> omega))))
      · refine ⟨rfl, _, rfl, rfl, by first | exact ((((Blk.later (Blk.new _ _ _) hb9).set 0 _).set 1 _).set 2 _) | exact ((((Blk.later (Blk.later (Blk.new _ _ _) (Below.refl _ _).drew) hb9).set 0 _).set 1 _).set 2 _), ?_⟩
        repeat' (first | with_reducible exact Below.refl _ _ | with_reducible refine Below.drew ?_ | with_reducible refine below_drewN ?_ _ | with_reducible refine Below.alloc ?_ (by first | omega | (simp <;> omega)) _ | with_reducible refine Below.setCell ?_ (by first | omega | (dsimp only; omega) | (simp <;> omega)) _ | with_reducible refine Below.trans ?_ (Below.mono (by assumption) (by first | omega | (simp <;> omega))))
      · refine ⟨rfl, _, rfl, rfl, by first | exact ((((Blk.later (Blk.later (Blk.new _ _ _) hb8) hb9).set 0 _).set 1 _).set 2 _) | exact ((((Blk.later (Blk.later (Blk.later (Blk.new _ _ _) (Below.refl _ _).drew) hb8) hb9).set 0 _).set 1 _).set 2 _), ?_⟩
        repeat' (first | with_reducible exact Below.refl _ _ | with_reducible refine Below.drew ?_ | with_reducible refine below_drewN ?_ _ | with_reducible refine Below.alloc ?_ (by first | omega | (simp <;> omega)) _ | with_reducible refine Below.setCell ?_ (by first | omega | (dsimp only; omega) | (simp <;> omega)) _ | with_reducible refine Below.trans ?_ (Below.mono (by assumption) (by first | omega | (simp <;> omega))))
    case rest =>
      obtain ⟨rfl, BX, rfl, rfl, bX, hbx⟩ := hcut
      have B8 : Below w.heap.size w wc := B7.trans (hbx.mono hs7')
      have bO8 := bO7.later hbx
      have hqd8 := hqd7.later hbx
      have hg8 : wc.cell? ⟨0, 0, none⟩ = some (.iface 165 (.agg #[.pointer (some ⟨9, 74, none⟩)])) := (B8.cell (p := ⟨0, 0, none⟩) hl0).trans hg
      have hl8 : 0 < wc.heap.size := by have := B8.size; omega
      have hs8 := B8.size
      have x0 := bX.cell 0
      have x1' := bX.cell 1
      have x2 := bX.cell 2
      have lX := bX.lt
      clear hbx bO7 hqd7 hqt7 B7 hg7 hl7 hs7' qE1 hto
      obtain ⟨w8, hw8⟩ : ∃ w8, w8 = wc := ⟨_, rfl⟩
      subst hw8
      go_wp2
      go_cut [13, 21, 22] from 113 to 127 (fun s13 s21 s22 wx => s13 = .int .i64 0 ∧ ∃ BZ : Nat, s21 = .string B ∧ s22 = .pointer (some ⟨BZ, 0, none⟩) ∧ Blk wx BZ 24 [.int .i64 x1, .int .i64 y1, .int .i64 z1] ∧ Below w8.heap.size w8 wx)
      case first =>
        clear bO8 hcb a1 a2 a3 a4
        go_region_held3 (fun w' => w'.cell? ⟨0, 0, none⟩ = some (.iface 165 (.agg #[.pointer (some ⟨9, 74, none⟩)])) ∧ w'.cell? ⟨BX, 0, none⟩ = some (.int .i64 x) ∧ w'.cell? ⟨BX, 1, none⟩ = some (.int .i64 y) ∧ w'.cell? ⟨BX, 2, none⟩ = some (.int .i64 z)) (first | (simp [go_sem, *]; done) | go_keep) ((go_at_call 17; refine (qE2 _ (hqd8.later (by repeat' (first | with_reducible exact Below.refl _ _ | with_reducible refine Below.drew ?_ | with_reducible refine below_drewN ?_ _ | with_reducible refine Below.alloc ?_ (by first | omega | (simp <;> omega)) _ | with_reducible refine Below.setCell ?_ (by first | omega | (dsimp only; omega) | (simp <;> omega)) _ | with_reducible refine Below.trans ?_ (Below.mono (by assumption) (by first | omega | (simp <;> omega)))))) (by refine ((show Below w8.heap.size w8 _ by repeat' (first | with_reducible exact Below.refl _ _ | with_reducible refine Below.drew ?_ | with_reducible refine below_drewN ?_ _ | with_reducible refine Below.alloc ?_ (by first | omega | (simp <;> omega)) _ | with_reducible refine Below.setCell ?_ (by first | omega | (dsimp only; omega) | (simp <;> omega)) _ | with_reducible refine Below.trans ?_ (Below.mono (by assumption) (by first | omega | (simp <;> omega))))).cell (p := ⟨0, 0, none⟩) hl8).trans hg8)).mono ?_; rintro en w9 ⟨rfl, hb9⟩; have hsz := hb9.size; (try simp at hsz); (first | (have hbl := blater2 HA (by first | exact Nat.le_refl _ | (simp; done) | (simp; omega)) hb9; obtain ⟨hcc, hff, HA, hne, hne'⟩ := hbl) | (obtain ⟨hcc, hff, HA, hne, hne'⟩ := blater1 hb9)); (try simp only [World.size_alloc, World.size_setCell] at HA); have hg9 : w9.cell? ⟨0, 0, none⟩ = some (.iface 165 (.agg #[.pointer (some ⟨9, 74, none⟩)])) := (hb9.cell (p := ⟨0, 0, none⟩) (by first | (simp; done) | (simp; omega))).trans (by simp [go_sem, *]); have y0 : w9.cell? ⟨BX, 0, none⟩ = some (.int .i64 x) := (hb9.cell (p := ⟨BX, 0, none⟩) (by first | (simp; done) | (simp; omega))).trans (by simp [go_sem, *]); have y1 : w9.cell? ⟨BX, 1, none⟩ = some (.int .i64 y) := (hb9.cell (p := ⟨BX, 1, none⟩) (by first | (simp; done) | (simp; omega))).trans (by simp [go_sem, *]); have y2 : w9.cell? ⟨BX, 2, none⟩ = some (.int .i64 z) := (hb9.cell (p := ⟨BX, 2, none⟩) (by first | (simp; done) | (simp; omega))).trans (by simp [go_sem, *])))
        all_goals (go_wp2_with fail; go_meet; go_light)
        · refine ⟨rfl, _, rfl, rfl, Blk.new _ _ _, ?_⟩
          repeat' (first | with_reducible exact Below.refl _ _ | with_reducible refine Below.drew ?_ | with_reducible refine below_drewN ?_ _ | with_reducible refine Below.alloc ?_ (by first | omega | (simp <;> omega)) _ | with_reducible refine Below.setCell ?_ (by first | omega | (dsimp only; omega) | (simp <;> omega)) _ | with_reducible refine Below.trans ?_ (Below.mono (by assumption) (by first | omega | (simp <;> omega))))
        · refine ⟨rfl, _, rfl, rfl, (((Blk.later (Blk.later (Blk.new _ _ _) (Below.refl _ _).drew) hb9).set 0 _).set 1 _).set 2 _, ?_⟩
          repeat' (first | with_reducible exact Below.refl _ _ | with_reducible refine Below.drew ?_ | with_reducible refine below_drewN ?_ _ | with_reducible refine Below.alloc ?_ (by first | omega | (simp <;> omega)) _ | with_reducible refine Below.setCell ?_ (by first | omega | (dsimp only; omega) | (simp <;> omega)) _ | with_reducible refine Below.trans ?_ (Below.mono (by assumption) (by first | omega | (simp <;> omega))))
      case rest =>
        obtain ⟨rfl, BZ, rfl, rfl, bZ, hbz⟩ := hcut
        have B9 : Below w.heap.size w wc := B8.trans (hbz.mono hs8)
        have bO9 := bO8.later hbz
        have o0 := bO9.cell 0
        have o1 := bO9.cell 1
        have o2 := bO9.cell 2
        have z0 := bZ.cell 0
        have z1' := bZ.cell 1
        have z2 := bZ.cell 2
        have hs9 := B9.size
        clear hbz bO8 bO9 bZ bX hqd8 x0 x1' x2 lX hg8 qE2 hfr hca B8
        go_wp2_with (first | (go_at_call 16; refine (awake_p20 _ (by refine ((show Below w.heap.size w _ by repeat' (first | with_reducible exact Below.refl _ _ | with_reducible refine Below.drew ?_ | with_reducible refine below_drewN ?_ _ | with_reducible refine Below.alloc ?_ (by first | omega | (simp <;> omega)) _ | with_reducible refine Below.setCell ?_ (by first | omega | (dsimp only; omega) | (simp <;> omega)) _ | with_reducible refine Below.trans ?_ (Below.mono (by assumption) (by first | omega | (simp <;> omega))))).cell (p := ⟨0, 0, none⟩) hl0).trans hg)).mono ?_; rintro en wa ⟨rfl, hba⟩; have hsz := hba.size; (try simp at hsz); (first | (have hbl := blater2 HA (by first | exact Nat.le_refl _ | (simp; done) | (simp; omega)) hba; obtain ⟨hcc, hff, HA, hne, hne'⟩ := hbl) | (obtain ⟨hcc, hff, HA, hne, hne'⟩ := blater1 hba)); (try simp only [World.size_alloc, World.size_setCell] at HA)))
        go_light
        refine bodyPost_ret (v := .bool true) (by simp [results, Tryd.results5, go_sem, *]) rfl ⟨rfl, ?_⟩
        repeat' (first | with_reducible exact Below.refl _ _ | with_reducible refine Below.drew ?_ | with_reducible refine below_drewN ?_ _ | with_reducible refine Below.alloc ?_ (by first | omega | (simp <;> omega)) _ | with_reducible refine Below.setCell ?_ (by first | omega | (dsimp only; omega) | (simp <;> omega)) _ | with_reducible refine Below.trans ?_ (Below.mono (by assumption) (by first | omega | (simp <;> omega))))
  · have ho := rexec_err he
    generalize Rexec qs lits before 1 4 8 1048576 = R at qP1 he ho
    obtain ⟨out, ⟨x1, y1, z1⟩, er⟩ := R
    dsimp only at qP1 he ho
    subst ho
    have d1 : (er != 0) = true := by simpa using he
    clear he
    go_enter Tryd.func5, Tryd.ntmps5
    go_wp2_with (first | (go_at_call 16; refine (awake_p20 _ (by refine ((show Below w.heap.size w _ by repeat' (first | with_reducible exact Below.refl _ _ | with_reducible refine Below.drew ?_ | with_reducible refine below_drewN ?_ _ | with_reducible refine Below.alloc ?_ (by first | omega | (simp <;> omega)) _ | with_reducible refine Below.setCell ?_ (by first | omega | (dsimp only; omega) | (simp <;> omega)) _ | with_reducible refine Below.trans ?_ (Below.mono (by assumption) (by first | omega | (simp <;> omega))))).cell (p := ⟨0, 0, none⟩) hl0).trans hg)).mono ?_; rintro en wa ⟨rfl, hba⟩; have hsz := hba.size; (try simp at hsz); (first | (have hbl := blater2 HA (by first | exact Nat.le_refl _ | (simp; done) | (simp; omega)) hba; obtain ⟨hcc, hff, HA, hne, hne'⟩ := hbl) | (obtain ⟨hcc, hff, HA, hne, hne'⟩ := blater1 hba)); (try simp only [World.size_alloc, World.size_setCell] at HA)) | (go_at_call 15; refine (qL _ (hq.later (by repeat' (first | with_reducible exact Below.refl _ _ | with_reducible refine Below.drew ?_ | with_reducible refine below_drewN ?_ _ | with_reducible refine Below.alloc ?_ (by first | omega | (simp <;> omega)) _ | with_reducible refine Below.setCell ?_ (by first | omega | (dsimp only; omega) | (simp <;> omega)) _ | with_reducible refine Below.trans ?_ (Below.mono (by assumption) (by first | omega | (simp <;> omega))))))).mono ?_; rintro en wl ⟨rfl, hbl⟩; have hsl := hbl.size) | (go_at_call 20; refine (first_s20 _).mono ?_; rintro en w1 ⟨rfl, hb1⟩; have hs1 := hb1.size) | (go_at_call 17; (with_reducible refine (qP1 _ (hq.later ?_) ?_).mono ?_); (case refine_1 => (repeat' (first | with_reducible exact Below.refl _ _ | with_reducible refine Below.drew ?_ | with_reducible refine below_drewN ?_ _ | with_reducible refine Below.alloc ?_ (by first | omega | (simp <;> omega)) _ | with_reducible refine Below.setCell ?_ (by first | omega | (dsimp only; omega) | (simp <;> omega)) _ | with_reducible refine Below.trans ?_ (Below.mono (by assumption) (by first | omega | (simp <;> omega)))))); (case refine_2 => (refine ((show Below w.heap.size w _ by repeat' (first | with_reducible exact Below.refl _ _ | with_reducible refine Below.drew ?_ | with_reducible refine below_drewN ?_ _ | with_reducible refine Below.alloc ?_ (by first | omega | (simp <;> omega)) _ | with_reducible refine Below.setCell ?_ (by first | omega | (dsimp only; omega) | (simp <;> omega)) _ | with_reducible refine Below.trans ?_ (Below.mono (by assumption) (by first | omega | (simp <;> omega))))).cell (p := ⟨0, 0, none⟩) hl0).trans hg)); rintro en w2 ⟨rfl, hb2⟩; have hs2 := hb2.size))
    go_light
    refine bodyPost_ret (v := .bool true) (by simp [results, Tryd.results5, go_sem, *]) rfl ⟨rfl, ?_⟩
    repeat' (first | with_reducible exact Below.refl _ _ | with_reducible refine Below.drew ?_ | with_reducible refine below_drewN ?_ _ | with_reducible refine Below.alloc ?_ (by first | omega | (simp <;> omega)) _ | with_reducible refine Below.setCell ?_ (by first | omega | (dsimp only; omega) | (simp <;> omega)) _ | with_reducible refine Below.trans ?_ (Below.mono (by assumption) (by first | omega | (simp <;> omega))))

set_option maxRecDepth 100000 in
set_option maxHeartbeats 8000000 in
theorem seqParts_t (pq : Option Addr) (qs : List (Int × Int × Int)) (cq : Nat) (lits before : ByteArray) (p : Int) (w : World) (hq : RowQ w pq qs) (hm : qs.length ≤ 9223372036854775807) (hcap : qs.length ≤ cq) (hl : lits.size ≤ 9223372036854775807) (hbf : before.size ≤ 9223372036854775807) (hg : w.cell? ⟨0, 0, none⟩ = some (.iface 165 (.agg #[.pointer (some ⟨9, 74, none⟩)]))) :
    Calls Tryd.prog 5 #[.slice pq qs.length cq, .string lits, .string before, .int .i64 p] w fun e w' => e = .returned (.bool true) ∧ Below w.heap.size w w' := by
  by_cases hv : lightB qs = true ∧ ¬ 300 < lits.size ∧ ¬ 300 < before.size
  · exact seqParts_1 pq qs cq lits before p w hq hm hcap hl hbf hg hv.1 hv.2.1 hv.2.2
  · have hl0 : 0 < w.heap.size := World.block_lt_of_cell? w ⟨0, 0, none⟩ hg
    have qL := fun w h => light_p pq qs cq w h hm
    have hv3 : (lightB qs = false) ∨ (lightB qs = true ∧ decide ((300 : Int) < (lits.size : Int)) = true) ∨ (lightB qs = true ∧ decide ((300 : Int) < (lits.size : Int)) = false ∧ decide ((300 : Int) < (before.size : Int)) = true) := by
      cases hb : lightB qs with
      | false => exact .inl rfl
      | true =>
        by_cases h1 : 300 < lits.size
        · exact .inr (.inl ⟨rfl, by simp; omega⟩)
        · refine .inr (.inr ⟨rfl, by simp; omega, ?_⟩)
          have : 300 < before.size := Classical.byContradiction fun h => hv ⟨hb, h1, h⟩
          simp; omega
    clear hv
    rcases hv3 with e0 | ⟨e0, e1⟩ | ⟨e0, e1, e2⟩
    all_goals
      rw [e0] at qL
      go_enter Tryd.func5, Tryd.ntmps5
      go_wp2_with (first | (go_at_call 16; refine (awake_p20 _ (by refine ((show Below w.heap.size w _ by repeat' (first | with_reducible exact Below.refl _ _ | with_reducible refine Below.drew ?_ | with_reducible refine below_drewN ?_ _ | with_reducible refine Below.alloc ?_ (by first | omega | (simp <;> omega)) _ | with_reducible refine Below.setCell ?_ (by first | omega | (dsimp only; omega) | (simp <;> omega)) _ | with_reducible refine Below.trans ?_ (Below.mono (by assumption) (by first | omega | (simp <;> omega))))).cell (p := ⟨0, 0, none⟩) hl0).trans hg)).mono ?_; rintro en wa ⟨rfl, hba⟩; have hsz := hba.size; (try simp at hsz); (first | (have hbl := blater2 HA (by first | exact Nat.le_refl _ | (simp; done) | (simp; omega)) hba; obtain ⟨hcc, hff, HA, hne, hne'⟩ := hbl) | (obtain ⟨hcc, hff, HA, hne, hne'⟩ := blater1 hba)); (try simp only [World.size_alloc, World.size_setCell] at HA)) | (go_at_call 15; refine (qL _ (hq.later (by repeat' (first | with_reducible exact Below.refl _ _ | with_reducible refine Below.drew ?_ | with_reducible refine below_drewN ?_ _ | with_reducible refine Below.alloc ?_ (by first | omega | (simp <;> omega)) _ | with_reducible refine Below.setCell ?_ (by first | omega | (dsimp only; omega) | (simp <;> omega)) _ | with_reducible refine Below.trans ?_ (Below.mono (by assumption) (by first | omega | (simp <;> omega))))))).mono ?_; rintro en wl ⟨rfl, hbl⟩; have hsl := hbl.size))
      go_light
      refine bodyPost_ret (v := .bool true) (by simp [results, Tryd.results5, go_sem, *]) rfl ⟨rfl, ?_⟩
      repeat' (first | with_reducible exact Below.refl _ _ | with_reducible refine Below.drew ?_ | with_reducible refine below_drewN ?_ _ | with_reducible refine Below.alloc ?_ (by first | omega | (simp <;> omega)) _ | with_reducible refine Below.setCell ?_ (by first | omega | (dsimp only; omega) | (simp <;> omega)) _ | with_reducible refine Below.trans ?_ (Below.mono (by assumption) (by first | omega | (simp <;> omega))))
end Go.Proofs.YtmblpmaelglnpaaDoor
