/-
  The iterator of the sequences of a block, walked.
-/
import Derived.Test.YtammacofhdbgcaaRows
import Derived.Test.YtammacofhdbgcaaParseNext
import Derived.Test.YtammacofhdbgcaaParseOf
import Derived.Test.YtammacofhdbgcaaRangeL
import Derived.Test.YtammacofhdbgcaaRepsRunIter
import Derived.Test.YtammacofhdbgcaaGBase
import Derived.Deep.Light
import Derived.Shelf.Abstract
import Derived.Shelf.RegionOpen
import Derived.OwnWalkIn
import Derived.TacticsInMore
import Derived.LoopNIn
import Derived.LoopIn
import Derived.Outline
import Derived.Sort.LoopGhostIn
import Derived.IntWalk
namespace Go.Proofs.Ytammacofhdbgcaa
open Go.RowKit
set_option linter.unusedSimpArgs false
set_option linter.unusedVariables false
open Go.Shelf
attribute [local go_sem] eq32 Oper.semAt_some

theorem Blk.stay {S : Nat → Prop} {X Y : World} {B : Nat} {t : TypeId} {vs : List Value} (h : Blk X B t vs) (hS : Stay S X Y) (hb : S B) : Blk Y B t vs := hS _ _ hb h
/-- The i-th sequence, as it is handed on. -/
def seqArgs (s : ByteArray) (e : Nat) (l dp : Int) (lz : Nat) (st : Nat × Int × Int × Int) (i : Nat) : Array Value :=
  #[.int .i64 ((psts s e l dp lz st i).1 : Nat), .agg #[.int .i64 (pnx s e l dp lz (psts s e l dp lz st i)).1.1, .int .i64 (pnx s e l dp lz (psts s e l dp lz st i)).1.2.1, .int .i64 (pnx s e l dp lz (psts s e l dp lz st i)).1.2.2]]
set_option maxRecDepth 100000 in
set_option maxHeartbeats 8000000 in
theorem seqs_iter (s : ByteArray) (e lz : Nat) (l dp : Int) (st : Nat × Int × Int × Int) (N bw bp bk lf : Nat) (hok : ∀ i, i ≤ N → POk s e (psts s e l dp lz st i)) (hin : ∀ i, i < N → (pnx s e l dp lz (psts s e l dp lz st i)).2.2 = true)
    (hout : (pnx s e l dp lz (psts s e l dp lz st N)).2.2 = false) (hz : lz ≤ 2) (n1 : bp ≠ bk) (n2 : bw ≠ bp) (n3 : bw ≠ bk) (J : Nat → Nat → World → Prop) (Jx : World → Prop) (W : World)
    (hst : ∀ i L X Y, But (fun k => k = bp ∨ k = bk) X Y → J i L X → J i L Y) (hF : ∀ i L X, J i L X → X.cell? ⟨bw, 0, none⟩ = some (.pointer (some ⟨bk, 0, none⟩)))
    (hr : ∀ i L X, i < N → J i L X → RoundOk Try.prog lf (seqArgs s e l dp lz st i) X (fun W' => J (i + 1) W'.heap.size W' ∧ Stay (fun k => (k = bp ∨ k = bk) ∨ L ≤ k) X W') (fun W' => Jx W' ∧ Stay (fun k => (k = bp ∨ k = bk) ∨ L ≤ k) X W'))
    (h0 : J 0 W.heap.size W) (hk : Blk W bk 103 [.int .i64 st.2.1, .int .i64 st.2.2.1, .int .i64 st.2.2.2, .string s, .int .i64 (e : Int), .int .i64 l, .int .i64 dp, .int .i64 (lz : Int)]) (hp : Blk W bp 3 [.int .i64 (st.1 : Nat)]) :
    Calls Try.prog 94 #[.func (.yield lf) #[] #[], .pointer (some ⟨bw, 0, none⟩), .pointer (some ⟨bp, 0, none⟩)] W fun en W' => (∃ v, en = .returned v) ∧ (((∃ L, J N L W') ∧ Blk W' bk 103 [.int .i64 (psts s e l dp lz st N).2.1, .int .i64 (psts s e l dp lz st N).2.2.1, .int .i64 (psts s e l dp lz st N).2.2.2, .string s, .int .i64 (e : Int), .int .i64 l, .int .i64 dp, .int .i64 (lz : Int)]) ∨ (Jx W' ∧ True)) := by
  refine callsIn_wide (n := 0) |>.1 (callsIn_of_wp Try.func94 rfl trivial ?_ rfl)
  simp only [Try.ntmps94, List.size_toArray, List.length_cons, List.length_nil, Nat.reduceAdd, Nat.reduceSub, Array.replicate_succ, Array.replicate_zero, List.push_toArray, List.append_toArray, List.nil_append, List.cons_append]
  have HOK := Lib.hid hok
  have HIN := Lib.hid hin
  have HOUT := Lib.hid hout
  have HST := Lib.hid hst
  have HF := Lib.hid hF
  have HR := Lib.hid hr
  have HK := Lib.hid hk
  have HP := Lib.hid hp
  have HN := Lib.hid (show bp ≠ bk ∧ bw ≠ bp ∧ bw ≠ bk from ⟨n1, n2, n3⟩)
  have HJ := Lib.hid h0
  clear hok hin hout hst hF hr hk hp n1 n2 n3 h0
  gi_wp2
  gi_loopg [] N (fun k wr => ∃ i L, k = N - i ∧ i ≤ N ∧ L ≤ wr.heap.size ∧ Hid (J i L wr) ∧ Hid (Blk wr bk 103 [.int .i64 (psts s e l dp lz st i).2.1, .int .i64 (psts s e l dp lz st i).2.2.1, .int .i64 (psts s e l dp lz st i).2.2.2, .string s, .int .i64 (e : Int), .int .i64 l, .int .i64 dp, .int .i64 (lz : Int)]) ∧ Hid (Blk wr bp 3 [.int .i64 ((psts s e l dp lz st i).1 : Nat)]))
  case atStart => exact ⟨0, _, rfl, by omega, Nat.le_refl _, HJ, HK, HP⟩
  case round =>
    clear HJ HK HP
    obtain ⟨i, L, hgk, hiN, hLw, HJ, HK, HP⟩ := hrel
    have HGK := Lib.hid hgk
    clear hgk
    have cw := HF.out i L wr HJ.out
    obtain ⟨nb1, nb2, nb3⟩ := HN.out
    have hpok := HOK.out i hiN
    have hsucc : psts s e l dp lz st (i + 1) = (pnx s e l dp lz (psts s e l dp lz st i)).2.1 := rfl
    have hrr := fun (h : i < N) => (fun X => HR.out i L X h)
    unfold seqArgs at hrr
    have hin1 := fun (h : i < N) => HIN.out i h
    have hout1 : i = N → (pnx s e l dp lz (psts s e l dp lz st i)).2.2 = false := fun h => by rw [h]; exact HOUT.out
    have hgo := pnx_ok s e l dp lz (psts s e l dp lz st i) hpok
    have hk := HK.out
    have hp := HP.out
    obtain ⟨⟨p, a, b, c⟩, hst⟩ : ∃ x, psts s e l dp lz st i = x := ⟨_, rfl⟩
    rw [hst] at hpok hsucc hrr hin1 hout1 hk hp hgo
    have HSTI := Lib.hid hst
    clear hst
    unfold POk at hpok
    dsimp only at hpok hrr hk hp
    obtain ⟨o1, o2, o3, o4⟩ := hpok
    have hW := hk.work
    have qN := fun (w' : World) (h : Work w' bk a b c s e l dp (lz : Int)) => next_s bk p lz a b c l dp 0 s e w' o3 o1 o2 (by omega) (by omega) hz h
    have HO4 := Lib.hid o4
    clear o4
    unfold pnx at hsucc hrr hin1 hout1 hgo
    dsimp only at hsucc hrr hin1 hout1 hgo
    obtain ⟨R, hR⟩ : ∃ R, pnext s e l dp a b c lz p 0 = R := ⟨_, rfl⟩
    rw [hR] at hsucc hrr hin1 hout1 qN hgo
    obtain ⟨q, ⟨m1, m2, m3, m4⟩, fb⟩ := R
    unfold NextPost at qN
    dsimp only at hsucc hrr hin1 hout1 qN hgo
    have kp := hp.cell 0
    have lp := hp.lt
    have fp : ∀ i, wr.frozen? ⟨bp, i, none⟩ = false := fun i => hp.frozen i
    simp at kp
    cases fb
    · have hiN2 : i = N := by
        rcases Nat.lt_or_ge i N with h | h
        · exact absurd (hin1 h) (by simp)
        · omega
      have HHI := Lib.hid hiN2
      clear hrr hin1 hout1 hsucc hR hiN2 hgo
      gi_wp2
      refine ⟨trivial, rfl, (callsIn_wide.2 (qN _ hW)).mono ?_⟩
      rintro en w1 ⟨rfl, hb1⟩
      gi_wp2
      refine bodyPost_ret (results_none rfl _ _ _) rfl ?_
      refine ⟨⟨_, rfl⟩, .inl ⟨⟨L, ?_⟩, ?_⟩⟩
      · rw [← HHI.out]
        exact HST.out _ _ _ _ (But.of_below (hb1.alloc (Nat.le_trans (Nat.le_refl _) hb1.size) _)) HJ.out
      · rw [← HHI.out, HSTI.out]
        exact (hk.later hb1).alloc _
    · have hiN2 : i < N := by
        rcases Nat.lt_or_ge i N with h | h
        · exact h
        · exact absurd (hout1 (by omega)) (by simp)
      have hr2 := hrr hiN2
      obtain ⟨x, d, n, v, y, z, g1, g2, g3, g4, g5, g6, g7, g8, g9, g10, g11, g12, g13, g14⟩ := hgo rfl
      simp only [Prod.mk.injEq] at g1
      obtain ⟨g1a, rfl, rfl⟩ := g1
      obtain rfl : q = p + x := g14
      rw [g1a] at hr2 hsucc
      rw [g10] at hsucc
      dsimp only at hsucc
      simp only [Int.toNat_natCast] at hsucc
      have HR2 := Lib.hid hr2
      have HSUC := Lib.hid hsucc
      have hrk : (Rask a b c m3 (x : Int)).2.1 = ((d : Int), y, z) := by rw [g10]
      have HRK := Lib.hid hrk
      clear hrr hin1 hout1 hsucc hR hr2 g2 g10 g11 g12 g13 hrk
      have e1 : ((p + x : Nat) : Int) - (p : Int) = (x : Int) := by omega
      have E1 := Lib.hid e1
      clear e1 g1a
      gi_wp2
      refine ⟨trivial, rfl, (callsIn_wide.2 (qN _ hW)).mono ?_⟩
      rintro en w1 ⟨rfl, hb1⟩
      have hk1 := hk.later hb1
      have hp1 := hp.later hb1
      have cw1 := (hb1.cell (p := ⟨bw, 0, none⟩) (cell_lt cw)).trans cw
      have kp1 := hp1.cell 0
      simp at kp1
      have lw1 : bw < w1.heap.size := cell_lt cw1
      have lp1 := hp1.lt
      have lk1 := hk1.lt
      gi_wp2
      rw [show (p : Int) + (x : Int) - (p : Int) = (x : Int) by omega]
      have hbX : Below wr.heap.size wr ((w1.alloc (.cells #[.int .i64 m1, .int .i64 (n : Int), .int .i64 m3, .int .i64 m4] 32)).alloc (.cells #[.int .i64 (x : Int), .int .i64 (n : Int), .int .i64 m3] 71)) := (hb1.alloc hb1.size _).alloc (by have := hb1.size; simp; omega) _
      have hBA : Blk ((w1.alloc (.cells #[.int .i64 m1, .int .i64 (n : Int), .int .i64 m3, .int .i64 m4] 32)).alloc (.cells #[.int .i64 (x : Int), .int .i64 (n : Int), .int .i64 m3] 71)) w1.heap.size 32 [.int .i64 m1, .int .i64 (n : Int), .int .i64 m3, .int .i64 m4] := (Blk.new w1 32 #[.int .i64 m1, .int .i64 (n : Int), .int .i64 m3, .int .i64 m4]).alloc _
      have hBQ : Blk ((w1.alloc (.cells #[.int .i64 m1, .int .i64 (n : Int), .int .i64 m3, .int .i64 m4] 32)).alloc (.cells #[.int .i64 (x : Int), .int .i64 (n : Int), .int .i64 m3] 71)) (w1.heap.size + 1) 71 [.int .i64 (x : Int), .int .i64 (n : Int), .int .i64 m3] := by simpa using Blk.new (w1.alloc (.cells #[.int .i64 m1, .int .i64 (n : Int), .int .i64 m3, .int .i64 m4] 32)) 71 #[.int .i64 (x : Int), .int .i64 (n : Int), .int .i64 m3]
      have hkX := hk.later hbX
      have hpX := hp.later hbX
      have hjX := HST.out _ _ _ _ (But.of_below (S := (fun k => k = bp ∨ k = bk)) hbX) HJ.out
      have hLw1 : L ≤ w1.heap.size := Nat.le_trans hLw hb1.size
      obtain ⟨X, hX⟩ : ∃ X, ((w1.alloc (.cells #[.int .i64 m1, .int .i64 (n : Int), .int .i64 m3, .int .i64 m4] 32)).alloc (.cells #[.int .i64 (x : Int), .int .i64 (n : Int), .int .i64 m3] 71)) = X := ⟨_, rfl⟩
      obtain ⟨A, hA⟩ : ∃ A, w1.heap.size = A := ⟨_, rfl⟩
      rw [hX] at hbX hBA hBQ hkX hpX hjX ⊢
      rw [hA] at hBA hBQ hLw1 ⊢
      obtain ⟨fn, tmps, assign, body, hy, hRo⟩ := HR2.out X hjX
      have hbXs := hbX.size
      have hkb := hk.lt
      have hpb := hp.lt
      have hA1 := hb1.size
      rw [hA] at hA1
      clear hX hA hb1 hk1 hp1 cw1 kp1 lw1 lp1 lk1 hk hp hW qN kp lp fp cw hbX hjX
      gi_wp2
      refine ⟨rfl, hRo.mono ?_⟩
      rintro en W4 (⟨rfl, hJ4, hS4⟩ | ⟨rfl, hJx4, hS4⟩)
      · have hA4 := hBA.stay hS4 (.inr hLw1)
        have hQ4 := hBQ.stay hS4 (.inr (by omega))
        have hk4 := hkX.stay hS4 (.inl (.inr rfl))
        have hp4 := hpX.stay hS4 (.inl (.inl rfl))
        have cw4 := HF.out _ _ _ hJ4
        have nA : ¬ A = bk := by omega
        have nA2 : ¬ bk = A := by omega
        have nA3 : ¬ A = bp := by omega
        have nA4 : ¬ bp = A := by omega
        have lA4 := hA4.lt
        have lk4 := hk4.lt
        have lp4 := hp4.lt
        have HJ4 := Lib.hid hJ4
        have c0 : W4.cell? ⟨A, 0, none⟩ = some (.int .i64 m1) := hA4.cell 0; have c1 : W4.cell? ⟨A, 1, none⟩ = some (.int .i64 (n : Int)) := hA4.cell 1; have c2 : W4.cell? ⟨A, 2, none⟩ = some (.int .i64 m3) := hA4.cell 2; have c3 : W4.cell? ⟨A, 3, none⟩ = some (.int .i64 m4) := hA4.cell 3
        have d0 : W4.cell? ⟨A + 1, 0, none⟩ = some (.int .i64 (x : Int)) := hQ4.cell 0; have d1 : W4.cell? ⟨A + 1, 1, none⟩ = some (.int .i64 (n : Int)) := hQ4.cell 1; have d2 : W4.cell? ⟨A + 1, 2, none⟩ = some (.int .i64 m3) := hQ4.cell 2
        clear hJ4 hS4 hy hRo hBA hBQ hkX hpX
        gi_wp2
        have qU := fun (w' : World) (h : Blk w' bk 103 [.int .i64 a, .int .i64 b, .int .i64 c, .string s, .int .i64 (e : Int), .int .i64 l, .int .i64 dp, .int .i64 (lz : Int)]) => use_p24 bk a b c m3 (x : Int) 103 _ w' h
        rw [HRK.out] at qU
        dsimp only at qU
        have hmx : Try.prog.follows .mixedOrders = true := by kernel_rfl
        gi_region_with_o (refine ⟨trivial, rfl, ?_⟩; (with_reducible refine (callsIn_wide.2 (qU _ (by first | exact hk4 | exact hk4.drew))).mono ?_); rintro en w6 ⟨rfl, w5, hb5, rfl⟩)
        all_goals
          have hb5x : Below W4.heap.size W4 w5 := by
            repeat' (first | exact Below.refl _ _ | refine Below.drew ?_ | refine below_drewN ?_ _ | refine Below.alloc ?_ (by first | omega | (simp <;> omega)) _ | refine Below.setCell ?_ (by first | omega | (simp <;> omega)) _ | refine Below.trans ?_ (Below.mono (by assumption) (by first | omega | (simp <;> omega))))
          have hA5 := hA4.later hb5x
          have hk5 := hk4.later hb5x
          have hp5 := hp4.later hb5x
          have p5 := hp5.cell 0
          have fp5 : ∀ i, w5.frozen? ⟨bp, i, none⟩ = false := fun i => hp5.frozen i
          have lp5 := hp5.lt
          simp at p5
          have cc0 : w5.cell? ⟨A, 0, none⟩ = some (.int .i64 m1) := hA5.cell 0; have cc1 : w5.cell? ⟨A, 1, none⟩ = some (.int .i64 (n : Int)) := hA5.cell 1; have cc2 : w5.cell? ⟨A, 2, none⟩ = some (.int .i64 m3) := hA5.cell 2; have cc3 : w5.cell? ⟨A, 3, none⟩ = some (.int .i64 m4) := hA5.cell 3
          clear c0 c1 c2 c3 d0 d1 d2 cw4
          gi_wp2
          have hbu : But (fun k => k = bp ∨ k = bk) W4 ((((w5.setCell ⟨bk, 0, none⟩ (.int .i64 (d : Int))).setCell ⟨bk, 1, none⟩ (.int .i64 y)).setCell ⟨bk, 2, none⟩ (.int .i64 z)).setCell ⟨bp, 0, none⟩ (.int .i64 ((p : Int) + (x : Int) + (n : Int)))) := ((((But.of_below hb5x).trans (But.setCell (S := (fun k => k = bp ∨ k = bk)) _ (a := ⟨bk, 0, none⟩) _ (.inr rfl))).trans (But.setCell (S := (fun k => k = bp ∨ k = bk)) _ (a := ⟨bk, 1, none⟩) _ (.inr rfl))).trans (But.setCell (S := (fun k => k = bp ∨ k = bk)) _ (a := ⟨bk, 2, none⟩) _ (.inr rfl))).trans (But.setCell (S := (fun k => k = bp ∨ k = bk)) _ (a := ⟨bp, 0, none⟩) _ (.inl rfl))
          have hkE : Blk ((((w5.setCell ⟨bk, 0, none⟩ (.int .i64 (d : Int))).setCell ⟨bk, 1, none⟩ (.int .i64 y)).setCell ⟨bk, 2, none⟩ (.int .i64 z)).setCell ⟨bp, 0, none⟩ (.int .i64 ((p : Int) + (x : Int) + (n : Int)))) bk 103 [.int .i64 (d : Int), .int .i64 y, .int .i64 z, .string s, .int .i64 (e : Int), .int .i64 l, .int .i64 dp, .int .i64 (lz : Int)] := (Blk.other (((hk5.set 0 (.int .i64 (d : Int))).set 1 (.int .i64 y)).set 2 (.int .i64 z)) (a := ⟨bp, 0, none⟩) (by simpa using nb1) (.int .i64 ((p : Int) + (x : Int) + (n : Int))))
          have hpE : Blk ((((w5.setCell ⟨bk, 0, none⟩ (.int .i64 (d : Int))).setCell ⟨bk, 1, none⟩ (.int .i64 y)).setCell ⟨bk, 2, none⟩ (.int .i64 z)).setCell ⟨bp, 0, none⟩ (.int .i64 ((p : Int) + (x : Int) + (n : Int)))) bp 3 [.int .i64 ((p + x + n : Nat) : Int)] := (Blk.set (Blk.other (Blk.other (Blk.other hp5 (a := ⟨bk, 0, none⟩) (by simpa using Ne.symm nb1) (.int .i64 (d : Int))) (a := ⟨bk, 1, none⟩) (by simpa using Ne.symm nb1) (.int .i64 y)) (a := ⟨bk, 2, none⟩) (by simpa using Ne.symm nb1) (.int .i64 z)) 0 (.int .i64 ((p : Int) + (x : Int) + (n : Int))))
          have hjE := HST.out _ _ _ _ hbu HJ4.out
          have hsE : W4.heap.size ≤ (((((w5.setCell ⟨bk, 0, none⟩ (.int .i64 (d : Int))).setCell ⟨bk, 1, none⟩ (.int .i64 y)).setCell ⟨bk, 2, none⟩ (.int .i64 z)).setCell ⟨bp, 0, none⟩ (.int .i64 ((p : Int) + (x : Int) + (n : Int))))).heap.size := hbu.size
          gi_roundg (N - (i + 1))
          case measure => have := HGK.out; omega
          case rel => exact ⟨i + 1, _, rfl, by omega, hsE, Lib.hid hjE, Lib.hid (by rw [HSUC.out]; exact hkE), Lib.hid (by rw [HSUC.out]; exact hpE)⟩
      · gi_wp2
        refine bodyPost_ret (results_none rfl _ _ _) rfl ?_
        exact ⟨⟨_, rfl⟩, .inr ⟨hJx4, trivial⟩⟩
end Go.Proofs.Ytammacofhdbgcaa
