/-
  Block, walked: of the reference.
-/
import Derived.Test.YtammacofhdbgcaaRows
import Derived.Test.YtammacofhdbgcaaParseBlock
import Derived.Test.YtammacofhdbgcaaParseRStep
import Derived.Test.YtammacofhdbgcaaGBase
import Derived.Deep.Light
import Derived.Shelf.Abstract
import Derived.Shelf.RegionOpen
import Derived.OwnWalkIn
import Derived.TacticsInMore
import Derived.LoopNIn
import Derived.LoopIn
import Derived.Outline
import Derived.Deep.LoopGhost
import Derived.IntWalk
import Derived.OwnWalk
namespace Go.Proofs.Ytammacofhdbgcaa
open Go.RowKit
set_option linter.unusedSimpArgs false
set_option linter.unusedVariables false
open Go.Shelf
attribute [local go_sem] eq32 Oper.semAt_some

/-- The boxes of the reference's Block. -/
def RBBox (H R N : Nat) (L W J O a b c : Int) (sy ch : Bool) (w : World) : Prop := Blk w H 57 [.int .i64 L, .int .i64 W, .int .i64 J, .int .i64 O, .bool sy, .bool ch] ∧ Blk w R 23 [.int .i64 a, .int .i64 b, .int .i64 c] ∧ Blk w N 23 [.int .i64 0, .int .i64 0, .int .i64 0]
theorem RBBox.later {H R N : Nat} {L W J O a b c : Int} {sy ch : Bool} {w w' : World} (h : RBBox H R N L W J O a b c sy ch w) (hb : Below w.heap.size w w') : RBBox H R N L W J O a b c sy ch w' :=
  ⟨h.1.later hb, h.2.1.later hb, h.2.2.later hb⟩
theorem RBBox.below {B H R N : Nat} {L W J O a b c : Int} {sy ch : Bool} {w w' : World} (h : RBBox H R N L W J O a b c sy ch w) (hb : Below B w w') (h1 : H < B) (h2 : R < B) (h3 : N < B) : RBBox H R N L W J O a b c sy ch w' :=
  ⟨h.1.below hb h1, h.2.1.below hb h2, h.2.2.below hb h3⟩
set_option maxRecDepth 100000 in
set_option maxHeartbeats 16000000 in
theorem rblock_1 (s : ByteArray) (p e lz : Nat) (L W J O a b c : Int) (sy ch : Bool) (w : World) (hs : s.size ≤ 1048576) (hpk : pOk L W J O) (hp : p ≤ e) (he : e ≤ s.size) (hc : chkL true [a, b, c] = 0) (hlz : lazyT L = (lz : Int)) (hz : lz ≤ 2) (hq : Pask s.size p e L W J O a b c = 0) :
    Calls Try.prog 37 #[.string s, .int .i64 (p : Int), .int .i64 (e : Int), .agg #[.int .i64 L, .int .i64 W, .int .i64 J, .int .i64 O, .bool sy, .bool ch], .agg #[.int .i64 a, .int .i64 b, .int .i64 c]] w (BlkPost (pblock s p e W (depthT L) lz a b c, 0) w) := by
  have q1 := fun w => asked_r24 s p e L W J O a b c sy ch w (by omega)
  rw [hq] at q1
  have HOK := Lib.hid (pS_ok s p e W (depthT L) lz a b c hp he hs hc)
  have HLS := Lib.hid (pLits_size s p e W (depthT L) lz a b c hp he hs hc)
  have HST := Lib.hid (fun (p : Nat) (a b c : Int) (w : World) (h : p ≤ e) => rstep_s s p e L W J O a b c 0 sy ch w hs hpk h he (by omega) (by omega) lz hlz hz)
  clear hq hpk hlz hc
  generalize depthT L = dp at HOK HLS HST ⊢
  go_enter Try.func37, Try.ntmps37
  go_wp2_with (go_at_call 70; refine (q1 _).mono ?_; rintro en w1 ⟨rfl, hb⟩; have hN1 : RBBox w.heap.size (w.heap.size + 1) (w.heap.size + 1 + 1) L W J O a b c sy ch w1 := RBBox.later ⟨(Blk.alloc (Blk.alloc (by simpa using Blk.new w 57 #[.int .i64 L, .int .i64 W, .int .i64 J, .int .i64 O, .bool sy, .bool ch]) _) _), (Blk.alloc (by simpa using Blk.new (w.alloc (.cells #[.int .i64 L, .int .i64 W, .int .i64 J, .int .i64 O, .bool sy, .bool ch] 57)) 23 #[.int .i64 a, .int .i64 b, .int .i64 c]) _), (by simpa using Blk.new ((w.alloc (.cells #[.int .i64 L, .int .i64 W, .int .i64 J, .int .i64 O, .bool sy, .bool ch] 57)).alloc (.cells #[.int .i64 a, .int .i64 b, .int .i64 c] 23)) 23 #[.int .i64 0, .int .i64 0, .int .i64 0])⟩ hb; have hs1 := hb.size; (simp at hs1))
  have B1 : Below w.heap.size w w1 := by
    repeat' (first | exact Below.refl _ _ | refine Below.drew ?_ | refine below_drewN ?_ _ | refine Below.alloc ?_ (by first | omega | (simp <;> omega)) _ | refine Below.setCell ?_ (by first | omega | (simp <;> omega)) _ | refine Below.trans ?_ (Below.mono (by assumption) (by first | omega | (simp <;> omega))))
  obtain ⟨bH, hbH⟩ : ∃ n, w.heap.size = n := ⟨_, rfl⟩
  obtain ⟨bR, hbR⟩ : ∃ n, bH + 1 = n := ⟨_, rfl⟩
  obtain ⟨bN, hbN⟩ : ∃ n, bR + 1 = n := ⟨_, rfl⟩
  have nn : bH < bR ∧ bR < bN ∧ bN < w1.heap.size := ⟨by omega, by omega, by have := hN1.2.2.lt; omega⟩
  simp only [hbH, hbR, hbN] at hN1 B1 ⊢
  obtain ⟨nn1, nn2, nn3⟩ := nn
  have HBH := Lib.hid hbH
  clear hb hs1 q1 hbH hbR hbN
  obtain ⟨i3, hi3, hz0, hz1, hz2⟩ := info_parts infoSeq
  obtain ⟨hin, hok, hout⟩ := HOK.out
  have hN4 : pN s p e W dp lz a b c ≤ 1048576 := by
    obtain ⟨g1, g2⟩ := hok _ (Nat.le_refl _)
    obtain ⟨g3, g4, g5, g6⟩ := g1
    omega
  obtain ⟨N, hN⟩ : ∃ N, pN s p e W dp lz a b c = N := ⟨_, rfl⟩
  have HN := Lib.hid hN
  rw [hN] at hin hok hout hN4
  have HIN := Lib.hid hin
  have HOKK := Lib.hid hok
  have HOUT := Lib.hid hout
  clear hin hok hout hN
  go_loopg [1, 15, 16] N (fun k vp vl vt wr => ∃ (i : Nat) (ad : Option Addr) (cap : Nat), k = N - i ∧ i ≤ N ∧ vp = .int .i64 ((pS s p e W dp lz a b c i).1 : Nat) ∧ vl = .slice ad i cap ∧ vt = .string (pLits s p e W dp lz a b c i) ∧ Hid (wr.ownsRow w1.heap.size 71 3 (.slice ad i cap) i (flat ((List.range i).map (pQ s p e W dp lz a b c)))) ∧ RBBox bH bR bN L W J O (pS s p e W dp lz a b c i).2.1 (pS s p e W dp lz a b c i).2.2.1 (pS s p e W dp lz a b c i).2.2.2 sy ch wr ∧ Below bH w wr ∧ w1.heap.size ≤ wr.heap.size)
  case atStart => exact ⟨0, none, 0, rfl, by omega, rfl, rfl, rfl, Lib.hid (World.ownsRow_nil _ _ _ _), hN1, B1, Nat.le_refl _⟩
  case round =>
    clear hN1 B1
    obtain ⟨i, ad, cap, hgk, hiN, rfl, rfl, rfl, HO, hB, hb, hsz⟩ := hrel
    have HGK := Lib.hid hgk
    clear hgk
    have hok1 := (HOKK.out i hiN).1
    have hgo := pnx_ok s e W dp lz (pS s p e W dp lz a b c i) hok1
    have hin1 := fun (h : i < N) => HIN.out i h
    have hout1 : i = N → (pnx s e W dp lz (pS s p e W dp lz a b c i)).2.2 = false := fun h => by rw [h]; exact HOUT.out
    have hsucc : (pS s p e W dp lz a b c (i + 1)) = (pnx s e W dp lz (pS s p e W dp lz a b c i)).2.1 := rfl
    have hqq : pQ s p e W dp lz a b c i = (pnx s e W dp lz (pS s p e W dp lz a b c i)).1 := rfl
    have hls := HLS.out i (by rw [HN.out]; exact hiN)
    have hl1 : pLits s p e W dp lz a b c (i + 1) = pLits s p e W dp lz a b c i ++ s.extract (pS s p e W dp lz a b c i).1 ((pS s p e W dp lz a b c i).1 + (pQ s p e W dp lz a b c i).1.toNat) := rfl
    obtain ⟨⟨q, a', b', c'⟩, hst⟩ : ∃ x, (pS s p e W dp lz a b c i) = x := ⟨_, rfl⟩
    rw [hst] at hok1 hgo hin1 hout1 hsucc hB hqq hls hl1
    have HSTI := Lib.hid hst
    simp only [hst]
    clear hst
    unfold POk at hok1
    dsimp only at hok1 hB hls hl1
    obtain ⟨o1, o2, o3, o4⟩ := hok1
    have qS := fun w => HST.out q a' b' c' w o1
    unfold pnx at hgo hin1 hout1 hsucc hqq
    dsimp only at hgo hin1 hout1 hsucc hqq
    have hend := pnext_none_end s e W dp a' b' c' lz (e - q) q 0
    change (pnext s e W dp a' b' c' lz q 0).2.2 = false → pnext s e W dp a' b' c' lz q 0 = _ at hend
    obtain ⟨R, hR⟩ : ∃ R, pnext s e W dp a' b' c' lz q 0 = R := ⟨_, rfl⟩
    rw [hR] at hgo hin1 hout1 hsucc hqq qS hend
    obtain ⟨q2, ⟨m1, m2, m3, g⟩, fb⟩ := R
    unfold NextPost at qS
    dsimp only at hgo hin1 hout1 hsucc hqq qS hend
    clear hR o4
    obtain ⟨T1, hT1⟩ : ∃ T, pLits s p e W dp lz a b c i = T := ⟨_, rfl⟩
    rw [hT1] at hls hl1 ⊢
    have HT1 := Lib.hid hT1
    clear hT1
    have HO1 := HO
    have i0 : (0 : Int) ≤ (q : Int) := by omega
    have HB := Lib.hid hB
    have hqw := hB; obtain ⟨x0w, x1w, x2w⟩ := hqw; have c00w : wr.cell? ⟨bH, 0, none⟩ = some (.int .i64 L) := x0w.cell 0; have c01w : wr.cell? ⟨bH, 1, none⟩ = some (.int .i64 W) := x0w.cell 1; have c02w : wr.cell? ⟨bH, 2, none⟩ = some (.int .i64 J) := x0w.cell 2; have c03w : wr.cell? ⟨bH, 3, none⟩ = some (.int .i64 O) := x0w.cell 3; have c04w : wr.cell? ⟨bH, 4, none⟩ = some (.bool sy) := x0w.cell 4; have c05w : wr.cell? ⟨bH, 5, none⟩ = some (.bool ch) := x0w.cell 5; have l0w : bH < wr.heap.size := x0w.lt; have c10w : wr.cell? ⟨bR, 0, none⟩ = some (.int .i64 a') := x1w.cell 0; have c11w : wr.cell? ⟨bR, 1, none⟩ = some (.int .i64 b') := x1w.cell 1; have c12w : wr.cell? ⟨bR, 2, none⟩ = some (.int .i64 c') := x1w.cell 2; have l1w : bR < wr.heap.size := x1w.lt; have c20w : wr.cell? ⟨bN, 0, none⟩ = some (.int .i64 0) := x2w.cell 0; have c21w : wr.cell? ⟨bN, 1, none⟩ = some (.int .i64 0) := x2w.cell 1; have c22w : wr.cell? ⟨bN, 2, none⟩ = some (.int .i64 0) := x2w.cell 2; have l2w : bN < wr.heap.size := x2w.lt; have f10w : wr.frozen? ⟨bR, 0, none⟩ = false := x1w.frozen 0; have f11w : wr.frozen? ⟨bR, 1, none⟩ = false := x1w.frozen 1; have f12w : wr.frozen? ⟨bR, 2, none⟩ = false := x1w.frozen 2; have f20w : wr.frozen? ⟨bN, 0, none⟩ = false := x2w.frozen 0; have f21w : wr.frozen? ⟨bN, 1, none⟩ = false := x2w.frozen 1; have f22w : wr.frozen? ⟨bN, 2, none⟩ = false := x2w.frozen 2
    cases fb
    · have hiN2 : i = N := by
        rcases Nat.lt_or_ge i N with h | h
        · exact absurd (hin1 h) (by simp)
        · omega
      have HHI := Lib.hid hiN2
      have he1 := hend rfl
      simp only [Prod.mk.injEq] at he1
      obtain ⟨rfl, ⟨rfl, rfl, rfl, rfl⟩, _⟩ := he1
      have i1 : (q : Int) ≤ (q2 : Int) := by omega
      have i2 : (q2 : Int) ≤ (s.size : Int) := by omega
      have hcat : ∀ X, (Op.stringOp .add T1 (s.extract q q2)).run Try.prog X = .ok (.string (T1 ++ s.extract q q2)) X := fun X => run_string_add_sum X _ _ (by rw [ByteArray.size_extract]; omega)
      clear hgo hin1 hout1 hsucc hqq hend hl1
      go_wp2_with (go_at_call 71; refine (qS _).mono ?_; rintro en w2 ⟨rfl, hb2⟩; have hB2 := HB.out.later hb2; have hs2 := hb2.size; have hq2 := hB2; obtain ⟨x02, x12, x22⟩ := hq2; have c002 : w2.cell? ⟨bH, 0, none⟩ = some (.int .i64 L) := x02.cell 0; have c012 : w2.cell? ⟨bH, 1, none⟩ = some (.int .i64 W) := x02.cell 1; have c022 : w2.cell? ⟨bH, 2, none⟩ = some (.int .i64 J) := x02.cell 2; have c032 : w2.cell? ⟨bH, 3, none⟩ = some (.int .i64 O) := x02.cell 3; have c042 : w2.cell? ⟨bH, 4, none⟩ = some (.bool sy) := x02.cell 4; have c052 : w2.cell? ⟨bH, 5, none⟩ = some (.bool ch) := x02.cell 5; have l02 : bH < w2.heap.size := x02.lt; have c102 : w2.cell? ⟨bR, 0, none⟩ = some (.int .i64 a') := x12.cell 0; have c112 : w2.cell? ⟨bR, 1, none⟩ = some (.int .i64 b') := x12.cell 1; have c122 : w2.cell? ⟨bR, 2, none⟩ = some (.int .i64 c') := x12.cell 2; have l12 : bR < w2.heap.size := x12.lt; have c202 : w2.cell? ⟨bN, 0, none⟩ = some (.int .i64 0) := x22.cell 0; have c212 : w2.cell? ⟨bN, 1, none⟩ = some (.int .i64 0) := x22.cell 1; have c222 : w2.cell? ⟨bN, 2, none⟩ = some (.int .i64 0) := x22.cell 2; have l22 : bN < w2.heap.size := x22.lt; have f102 : w2.frozen? ⟨bR, 0, none⟩ = false := x12.frozen 0; have f112 : w2.frozen? ⟨bR, 1, none⟩ = false := x12.frozen 1; have f122 : w2.frozen? ⟨bR, 2, none⟩ = false := x12.frozen 2; have f202 : w2.frozen? ⟨bN, 0, none⟩ = false := x22.frozen 0; have f212 : w2.frozen? ⟨bN, 1, none⟩ = false := x22.frozen 1; have f222 : w2.frozen? ⟨bN, 2, none⟩ = false := x22.frozen 2)
      obtain ⟨W3, hW3⟩ : ∃ W3, w2.alloc (.cells #[.int .i64 0, .int .i64 0, .int .i64 0, .int .i64 0] 32) = W3 := ⟨_, rfl⟩
      have hbW : Below wr.heap.size wr W3 := by rw [← hW3]; exact hb2.alloc hs2 _
      have hB3 := HB.out.later hbW
      have hO3 := ownsRow_later HO.out hbW
      have hb3 : Below bH w W3 := hb.trans (hbW.mono (by omega))
      clear c00w c002 c01w c012 c02w c022 c03w c032 c04w c042 c05w c052 c10w c102 c11w c112 c12w c122 c20w c202 c21w c212 c22w c222 l0w x0w l02 x02 l1w x1w l12 x12 l2w x2w l22 x22 f10w f102 f11w f112 f12w f122 f20w f202 f21w f212 f22w f222 hB2 hs2 hb2 hB hcat
      rw [hW3]
      clear hW3
      have hq3 := hB3; obtain ⟨x03, x13, x23⟩ := hq3; have c003 : W3.cell? ⟨bH, 0, none⟩ = some (.int .i64 L) := x03.cell 0; have c013 : W3.cell? ⟨bH, 1, none⟩ = some (.int .i64 W) := x03.cell 1; have c023 : W3.cell? ⟨bH, 2, none⟩ = some (.int .i64 J) := x03.cell 2; have c033 : W3.cell? ⟨bH, 3, none⟩ = some (.int .i64 O) := x03.cell 3; have c043 : W3.cell? ⟨bH, 4, none⟩ = some (.bool sy) := x03.cell 4; have c053 : W3.cell? ⟨bH, 5, none⟩ = some (.bool ch) := x03.cell 5; have l03 : bH < W3.heap.size := x03.lt; have c103 : W3.cell? ⟨bR, 0, none⟩ = some (.int .i64 a') := x13.cell 0; have c113 : W3.cell? ⟨bR, 1, none⟩ = some (.int .i64 b') := x13.cell 1; have c123 : W3.cell? ⟨bR, 2, none⟩ = some (.int .i64 c') := x13.cell 2; have l13 : bR < W3.heap.size := x13.lt; have c203 : W3.cell? ⟨bN, 0, none⟩ = some (.int .i64 0) := x23.cell 0; have c213 : W3.cell? ⟨bN, 1, none⟩ = some (.int .i64 0) := x23.cell 1; have c223 : W3.cell? ⟨bN, 2, none⟩ = some (.int .i64 0) := x23.cell 2; have l23 : bN < W3.heap.size := x23.lt; have f103 : W3.frozen? ⟨bR, 0, none⟩ = false := x13.frozen 0; have f113 : W3.frozen? ⟨bR, 1, none⟩ = false := x13.frozen 1; have f123 : W3.frozen? ⟨bR, 2, none⟩ = false := x13.frozen 2; have f203 : W3.frozen? ⟨bN, 0, none⟩ = false := x23.frozen 0; have f213 : W3.frozen? ⟨bN, 1, none⟩ = false := x23.frozen 1; have f223 : W3.frozen? ⟨bN, 2, none⟩ = false := x23.frozen 2
      apply wp_det
      case det =>
        go_region
        all_goals exact ⟨rfl, rfl⟩
      case go =>
        go_wp2
        have hres : pblock s p q2 W dp lz a b c = ((List.range i).map (pQ s p q2 W dp lz a b c), T1 ++ s.extract q q2, (a', b', c')) := by
          unfold pblock
          rw [HN.out, ← HHI.out, HSTI.out, HT1.out]
        have hln : ((List.range i).map (pQ s p q2 W dp lz a b c)).length = i := by simp
        refine bodyPost_ret (v := .tuple #[.slice ad i cap, .string (T1 ++ s.extract q q2), .agg #[.int .i64 a', .int .i64 b', .int .i64 c'], .int .i64 0]) (by simp [results, Try.results37, go_sem, *]) rfl ?_
        rw [hres]
        refine ⟨ad, cap, ?_, ?_, ?_, ?_⟩
        · dsimp only; rw [hln]
        · dsimp only; rw [hln]; intro g hg; have := own_base3 HO.out g hg; have := HBH.out; omega
        · refine RowQ.of_own (But.ownsRow (S := fun k => k = bN) ?_ hO3 (fun k hk => by omega)) hln.symm
          exact (((But.setCell (S := fun k => k = bN) _ (a := ⟨bN, 0, none⟩) _ rfl).trans (But.setCell (S := fun k => k = bN) _ (a := ⟨bN, 1, none⟩) _ rfl)).trans (But.setCell (S := fun k => k = bN) _ (a := ⟨bN, 2, none⟩) _ rfl)).trans (But.of_below (Below.refl _ _).drew)
        · rw [HBH.out]
          repeat' (first | exact Below.refl _ _ | refine Below.drew ?_ | refine below_drewN ?_ _ | refine Below.alloc ?_ (by first | omega | (simp <;> omega)) _ | refine Below.setCell ?_ (by first | omega | (simp <;> omega)) _ | refine Below.trans ?_ (Below.mono (by assumption) (by first | omega | (simp <;> omega))))
    · have hiN2 : i < N := by
        rcases Nat.lt_or_ge i N with h | h
        · exact h
        · exact absurd (hout1 (by omega)) (by simp)
      obtain ⟨x, d, n, v, y, z, g1, g2, g3, g4, g5, g6, g7, g8, g9, g10, g11, g12, g13, g14⟩ := hgo rfl
      simp only [Prod.mk.injEq] at g1
      obtain ⟨g1a, rfl, rfl⟩ := g1
      have G14 := Lib.hid g14
      have e1 : (q2 : Int) - (q : Int) = (x : Int) := by omega
      rw [e1] at hsucc hqq
      have hnx : (pS s p e W dp lz a b c (i + 1)) = (q2 + n, (d : Int), y, z) := by rw [hsucc, g10]; rfl
      have hfl : flat ((List.range (i + 1)).map (pQ s p e W dp lz a b c)) = flat ((List.range i).map (pQ s p e W dp lz a b c)) ++ [.int .i64 (x : Int), .int .i64 (n : Int), .int .i64 m3] := by
        rw [List.range_succ, List.map_append, flat_append, List.map_cons, List.map_nil, hqq]
        rfl
      rw [hqq] at hl1
      dsimp only at hl1
      rw [Int.toNat_natCast, ← g14] at hl1
      have HNX := Lib.hid hnx
      have HFL := Lib.hid hfl
      have HL1 := Lib.hid hl1
      have qX := fun w => next_r a' b' c' m3 (x : Int) w
      rw [g10] at qX
      dsimp only at qX
      have i1 : (q : Int) ≤ (q2 : Int) := by omega
      have i2 : (q2 : Int) ≤ (s.size : Int) := by omega
      have i3' : q2 + n ≤ 1048576 := by omega
      have hcat : ∀ X, (Op.stringOp .add T1 (s.extract q q2)).run Try.prog X = .ok (.string (T1 ++ s.extract q q2)) X := fun X => run_string_add_sum X _ _ (by rw [ByteArray.size_extract]; omega)
      have C1 : ∀ u ∈ [Value.int .i64 (x : Int), .int .i64 (n : Int), .int .i64 m3], u.oneCell' = true := by
        intro u hu
        simp at hu
        rcases hu with rfl | rfl | rfl <;> rfl
      have HC1 := Lib.hid C1
      have hwx : IntKind.i64.wrap ((q2 : Int) - (q : Int)) = (x : Int) := by rw [e1]; exact IntWalk.i64_in _ (by omega)
      have E1 := Lib.hid e1
      clear C1 hin1 hout1 hsucc hqq hend hl1 hnx hfl g1a g2 g3 g4 g5 g6 g7 g8 g9 g10 g11 g12 g13 hls hgo o1 e1 g14
      have HCN : ∀ w2 : World, Hid (∀ (j : Nat) (u : Value), [Value.int .i64 (x : Int), .int .i64 (n : Int), .int .i64 m3][j]? = some u → ((w2.alloc (.cells #[.int .i64 m1, .int .i64 (n : Int), .int .i64 m3, .int .i64 g] 32)).alloc (.cells #[.int .i64 (x : Int), .int .i64 (n : Int), .int .i64 m3] 71)).cell? ((⟨w2.heap.size + 1, 0, none⟩ : Addr).add j) = some u) := by
        intro w2
        refine Lib.hid ?_
        intro j u hj
        match j, hj with
        | 0, hj => simp at hj; subst hj; simp [Addr.add, go_sem]
        | 1, hj => simp at hj; subst hj; simp [Addr.add, go_sem]
        | 2, hj => simp at hj; subst hj; simp [Addr.add, go_sem]
      have e1 := E1.out
      go_wp2_with (first | (go_at_call 71; refine (qS _).mono ?_; rintro en w2 ⟨rfl, hb2⟩; have hs2 := hb2.size; have hbW : Below wr.heap.size wr (w2.alloc (.cells #[.int .i64 m1, .int .i64 (n : Int), .int .i64 m3, .int .i64 g] 32)) := hb2.alloc hs2 _; have HB3 := Lib.hid (HB.out.later hbW); have HO3 := Lib.hid (ownsRow_later HO.out hbW); have hB2 := HB.out.later hb2; have hq2 := hB2; obtain ⟨x02, x12, x22⟩ := hq2; have c002 : w2.cell? ⟨bH, 0, none⟩ = some (.int .i64 L) := x02.cell 0; have c012 : w2.cell? ⟨bH, 1, none⟩ = some (.int .i64 W) := x02.cell 1; have c022 : w2.cell? ⟨bH, 2, none⟩ = some (.int .i64 J) := x02.cell 2; have c032 : w2.cell? ⟨bH, 3, none⟩ = some (.int .i64 O) := x02.cell 3; have c042 : w2.cell? ⟨bH, 4, none⟩ = some (.bool sy) := x02.cell 4; have c052 : w2.cell? ⟨bH, 5, none⟩ = some (.bool ch) := x02.cell 5; have l02 : bH < w2.heap.size := x02.lt; have c102 : w2.cell? ⟨bR, 0, none⟩ = some (.int .i64 a') := x12.cell 0; have c112 : w2.cell? ⟨bR, 1, none⟩ = some (.int .i64 b') := x12.cell 1; have c122 : w2.cell? ⟨bR, 2, none⟩ = some (.int .i64 c') := x12.cell 2; have l12 : bR < w2.heap.size := x12.lt; have c202 : w2.cell? ⟨bN, 0, none⟩ = some (.int .i64 0) := x22.cell 0; have c212 : w2.cell? ⟨bN, 1, none⟩ = some (.int .i64 0) := x22.cell 1; have c222 : w2.cell? ⟨bN, 2, none⟩ = some (.int .i64 0) := x22.cell 2; have l22 : bN < w2.heap.size := x22.lt; have f102 : w2.frozen? ⟨bR, 0, none⟩ = false := x12.frozen 0; have f112 : w2.frozen? ⟨bR, 1, none⟩ = false := x12.frozen 1; have f122 : w2.frozen? ⟨bR, 2, none⟩ = false := x12.frozen 2; have f202 : w2.frozen? ⟨bN, 0, none⟩ = false := x22.frozen 0; have f212 : w2.frozen? ⟨bN, 1, none⟩ = false := x22.frozen 1; have f222 : w2.frozen? ⟨bN, 2, none⟩ = false := x22.frozen 2) | (at_builtin; (try rw [e1]); refine wpList_append_own _ rfl _ _ 58 rfl w1.heap.size 71 i3 (.agg #[.int .i64 0, .int .i64 0, .int .i64 0]) 3 24 Try.underlying58 hi3 hz0 hz1 hz2 rfl (by decide) _ _ _ rfl (HO3.out.alloc _) ⟨w2.heap.size + 1, 0, none⟩ 1 1 [.int .i64 (x : Int), .int .i64 (n : Int), .int .i64 m3] rfl rfl (HCN w2).out HC1.out (by unfold maxLen; omega) (by omega) (by first | omega | (simp; omega)) ?_; intro v' w4 hown4 hg4 hnil4; obtain ⟨ad', cap', rfl⟩ := own_sliceG hown4; have us4 := hg4.size; (try simp at us4); have hb4 : Below w1.heap.size (w2.alloc (.cells #[.int .i64 m1, .int .i64 (n : Int), .int .i64 m3, .int .i64 g] 32)) w4 := ((Below.refl _ _).alloc (by simp; omega) _).grown hg4 (by simp; omega) (own_base3 HO3.out); have hB4 := HB3.out.below hb4 (by omega) (by omega) (by omega); have far : ∀ j, w4.cell? ⟨w2.heap.size, j, none⟩ = (w2.alloc (.cells #[.int .i64 m1, .int .i64 (n : Int), .int .i64 m3, .int .i64 g] 32)).cell? ⟨w2.heap.size, j, none⟩ := (fun j => by rw [hg4.cell_far _ (by simp; omega) (fun hh => by have h7 := own_ltG HO.out hh.symm; simp at h7; omega)]; exact World.cell?_alloc_past _ _ _ (by simp)); have u1 : w4.cell? ⟨w2.heap.size, 1, none⟩ = some (.int .i64 (n : Int)) := (far 1).trans (by simp [go_sem]); have u2 : w4.cell? ⟨w2.heap.size, 2, none⟩ = some (.int .i64 m3) := (far 2).trans (by simp [go_sem]); have hq4 := hB4; obtain ⟨x04, x14, x24⟩ := hq4; have c004 : w4.cell? ⟨bH, 0, none⟩ = some (.int .i64 L) := x04.cell 0; have c014 : w4.cell? ⟨bH, 1, none⟩ = some (.int .i64 W) := x04.cell 1; have c024 : w4.cell? ⟨bH, 2, none⟩ = some (.int .i64 J) := x04.cell 2; have c034 : w4.cell? ⟨bH, 3, none⟩ = some (.int .i64 O) := x04.cell 3; have c044 : w4.cell? ⟨bH, 4, none⟩ = some (.bool sy) := x04.cell 4; have c054 : w4.cell? ⟨bH, 5, none⟩ = some (.bool ch) := x04.cell 5; have l04 : bH < w4.heap.size := x04.lt; have c104 : w4.cell? ⟨bR, 0, none⟩ = some (.int .i64 a') := x14.cell 0; have c114 : w4.cell? ⟨bR, 1, none⟩ = some (.int .i64 b') := x14.cell 1; have c124 : w4.cell? ⟨bR, 2, none⟩ = some (.int .i64 c') := x14.cell 2; have l14 : bR < w4.heap.size := x14.lt; have c204 : w4.cell? ⟨bN, 0, none⟩ = some (.int .i64 0) := x24.cell 0; have c214 : w4.cell? ⟨bN, 1, none⟩ = some (.int .i64 0) := x24.cell 1; have c224 : w4.cell? ⟨bN, 2, none⟩ = some (.int .i64 0) := x24.cell 2; have l24 : bN < w4.heap.size := x24.lt; have f104 : w4.frozen? ⟨bR, 0, none⟩ = false := x14.frozen 0; have f114 : w4.frozen? ⟨bR, 1, none⟩ = false := x14.frozen 1; have f124 : w4.frozen? ⟨bR, 2, none⟩ = false := x14.frozen 2; have f204 : w4.frozen? ⟨bN, 0, none⟩ = false := x24.frozen 0; have f214 : w4.frozen? ⟨bN, 1, none⟩ = false := x24.frozen 1; have f224 : w4.frozen? ⟨bN, 2, none⟩ = false := x24.frozen 2) | (go_at_call 72; (try rw [e1]); refine (qX _).mono ?_; rintro en w5 ⟨rfl, hb5⟩; have hB5 := hB4.later hb5; have us5 := hb5.size; have v1 := (hb5.cell (p := ⟨w2.heap.size, 1, none⟩) (by dsimp only; omega)).trans u1; have hq5 := hB5; obtain ⟨x05, x15, x25⟩ := hq5; have c005 : w5.cell? ⟨bH, 0, none⟩ = some (.int .i64 L) := x05.cell 0; have c015 : w5.cell? ⟨bH, 1, none⟩ = some (.int .i64 W) := x05.cell 1; have c025 : w5.cell? ⟨bH, 2, none⟩ = some (.int .i64 J) := x05.cell 2; have c035 : w5.cell? ⟨bH, 3, none⟩ = some (.int .i64 O) := x05.cell 3; have c045 : w5.cell? ⟨bH, 4, none⟩ = some (.bool sy) := x05.cell 4; have c055 : w5.cell? ⟨bH, 5, none⟩ = some (.bool ch) := x05.cell 5; have l05 : bH < w5.heap.size := x05.lt; have c105 : w5.cell? ⟨bR, 0, none⟩ = some (.int .i64 a') := x15.cell 0; have c115 : w5.cell? ⟨bR, 1, none⟩ = some (.int .i64 b') := x15.cell 1; have c125 : w5.cell? ⟨bR, 2, none⟩ = some (.int .i64 c') := x15.cell 2; have l15 : bR < w5.heap.size := x15.lt; have c205 : w5.cell? ⟨bN, 0, none⟩ = some (.int .i64 0) := x25.cell 0; have c215 : w5.cell? ⟨bN, 1, none⟩ = some (.int .i64 0) := x25.cell 1; have c225 : w5.cell? ⟨bN, 2, none⟩ = some (.int .i64 0) := x25.cell 2; have l25 : bN < w5.heap.size := x25.lt; have f105 : w5.frozen? ⟨bR, 0, none⟩ = false := x15.frozen 0; have f115 : w5.frozen? ⟨bR, 1, none⟩ = false := x15.frozen 1; have f125 : w5.frozen? ⟨bR, 2, none⟩ = false := x15.frozen 2; have f205 : w5.frozen? ⟨bN, 0, none⟩ = false := x25.frozen 0; have f215 : w5.frozen? ⟨bN, 1, none⟩ = false := x25.frozen 1; have f225 : w5.frozen? ⟨bN, 2, none⟩ = false := x25.frozen 2))
      have hB6 : RBBox bH bR bN L W J O (d : Int) y z sy ch (((w5.setCell ⟨bR, 0, none⟩ (.int .i64 (d : Int))).setCell ⟨bR, 1, none⟩ (.int .i64 y)).setCell ⟨bR, 2, none⟩ (.int .i64 z)) := ⟨((hB5.1.other (by dsimp only; omega) _).other (by dsimp only; omega) _).other (by dsimp only; omega) _, ((hB5.2.1.set 0 _).set 1 _).set 2 _, ((hB5.2.2.other (by dsimp only; omega) _).other (by dsimp only; omega) _).other (by dsimp only; omega) _⟩
      have hO6 : ((((w5.setCell ⟨bR, 0, none⟩ (.int .i64 (d : Int))).setCell ⟨bR, 1, none⟩ (.int .i64 y)).setCell ⟨bR, 2, none⟩ (.int .i64 z))).ownsRow w1.heap.size 71 3 (.slice ad' (i + 1) cap') (i + 1) (flat ((List.range (i + 1)).map (pQ s p e W dp lz a b c))) := by
        rw [HFL.out]
        refine But.ownsRow (S := fun k => k = bR) (X := w5) ?_ (ownsRow_later hown4 hb5) (fun k hk => by omega)
        exact ((But.setCell (S := fun k => k = bR) _ (a := ⟨bR, 0, none⟩) _ rfl).trans (But.setCell (S := fun k => k = bR) _ (a := ⟨bR, 1, none⟩) _ rfl)).trans (But.setCell (S := fun k => k = bR) _ (a := ⟨bR, 2, none⟩) _ rfl)
      have hbW2 : Below bH w (w2.alloc (.cells #[.int .i64 m1, .int .i64 (n : Int), .int .i64 m3, .int .i64 g] 32)) := hb.trans (hbW.mono (by omega))
      have hb7 : Below bH w (((w5.setCell ⟨bR, 0, none⟩ (.int .i64 (d : Int))).setCell ⟨bR, 1, none⟩ (.int .i64 y)).setCell ⟨bR, 2, none⟩ (.int .i64 z)) := by
        refine Below.setCell (Below.setCell (Below.setCell ?_ (by dsimp only; omega) _) (by dsimp only; omega) _) (by dsimp only; omega) _
        exact (hbW2.trans (hb4.mono (by omega))).trans (hb5.mono (by have := hb4.size; have := hbW2.size; have := HBH.out; (try simp at this); omega))
      have hs7 : w1.heap.size ≤ ((((w5.setCell ⟨bR, 0, none⟩ (.int .i64 (d : Int))).setCell ⟨bR, 1, none⟩ (.int .i64 y)).setCell ⟨bR, 2, none⟩ (.int .i64 z))).heap.size := by simp; omega
      go_roundg (N - (i + 1))
      case measure => have := HGK.out; omega
      case rel =>
        refine ⟨i + 1, ad', cap', rfl, by omega, ?_, rfl, ?_, Lib.hid hO6, ?_, hb7, hs7⟩
        · rw [HNX.out]; go_num
        · rw [HL1.out]
        · rw [HNX.out]; exact hB6

set_option maxRecDepth 100000 in
set_option maxHeartbeats 4000000 in
theorem rblock_2 (s : ByteArray) (p e L W J O a b c : Int) (sy ch : Bool) (w : World) (hl : s.size ≤ 9223372036854775807) (h : Pask s.size p e L W J O a b c ≠ 0) :
    Calls Try.prog 37 #[.string s, .int .i64 p, .int .i64 e, .agg #[.int .i64 L, .int .i64 W, .int .i64 J, .int .i64 O, .bool sy, .bool ch], .agg #[.int .i64 a, .int .i64 b, .int .i64 c]] w (BlkPost (([], ⟨#[]⟩, (0, 0, 0)), Pask s.size p e L W J O a b c) w) := by
  have qC := fun w => asked_r24 s p e L W J O a b c sy ch w hl
  generalize Pask s.size p e L W J O a b c = E at qC h ⊢
  have h3 : (E != 0) = true := by simpa using h
  have h4 : (E == 0) = false := by simpa using h
  clear h
  go_enter Try.func37, Try.ntmps37
  go_wp2_with (go_at_call 70; refine (qC _).mono ?_; rintro en w1 ⟨rfl, hb⟩; have hN1 : RBBox w.heap.size (w.heap.size + 1) (w.heap.size + 1 + 1) L W J O a b c sy ch w1 := RBBox.later ⟨(Blk.alloc (Blk.alloc (by simpa using Blk.new w 57 #[.int .i64 L, .int .i64 W, .int .i64 J, .int .i64 O, .bool sy, .bool ch]) _) _), (Blk.alloc (by simpa using Blk.new (w.alloc (.cells #[.int .i64 L, .int .i64 W, .int .i64 J, .int .i64 O, .bool sy, .bool ch] 57)) 23 #[.int .i64 a, .int .i64 b, .int .i64 c]) _), (by simpa using Blk.new ((w.alloc (.cells #[.int .i64 L, .int .i64 W, .int .i64 J, .int .i64 O, .bool sy, .bool ch] 57)).alloc (.cells #[.int .i64 a, .int .i64 b, .int .i64 c] 23)) 23 #[.int .i64 0, .int .i64 0, .int .i64 0])⟩ hb; have hs1 := hb.size; (simp at hs1); have hq1 := hN1; obtain ⟨x01, x11, x21⟩ := hq1; have c001 : w1.cell? ⟨w.heap.size, 0, none⟩ = some (.int .i64 L) := x01.cell 0; have c011 : w1.cell? ⟨w.heap.size, 1, none⟩ = some (.int .i64 W) := x01.cell 1; have c021 : w1.cell? ⟨w.heap.size, 2, none⟩ = some (.int .i64 J) := x01.cell 2; have c031 : w1.cell? ⟨w.heap.size, 3, none⟩ = some (.int .i64 O) := x01.cell 3; have c041 : w1.cell? ⟨w.heap.size, 4, none⟩ = some (.bool sy) := x01.cell 4; have c051 : w1.cell? ⟨w.heap.size, 5, none⟩ = some (.bool ch) := x01.cell 5; have l01 : w.heap.size < w1.heap.size := x01.lt; have c101 : w1.cell? ⟨w.heap.size + 1, 0, none⟩ = some (.int .i64 a) := x11.cell 0; have c111 : w1.cell? ⟨w.heap.size + 1, 1, none⟩ = some (.int .i64 b) := x11.cell 1; have c121 : w1.cell? ⟨w.heap.size + 1, 2, none⟩ = some (.int .i64 c) := x11.cell 2; have l11 : w.heap.size + 1 < w1.heap.size := x11.lt; have c201 : w1.cell? ⟨w.heap.size + 1 + 1, 0, none⟩ = some (.int .i64 0) := x21.cell 0; have c211 : w1.cell? ⟨w.heap.size + 1 + 1, 1, none⟩ = some (.int .i64 0) := x21.cell 1; have c221 : w1.cell? ⟨w.heap.size + 1 + 1, 2, none⟩ = some (.int .i64 0) := x21.cell 2; have l21 : w.heap.size + 1 + 1 < w1.heap.size := x21.lt; have f101 : w1.frozen? ⟨w.heap.size + 1, 0, none⟩ = false := x11.frozen 0; have f111 : w1.frozen? ⟨w.heap.size + 1, 1, none⟩ = false := x11.frozen 1; have f121 : w1.frozen? ⟨w.heap.size + 1, 2, none⟩ = false := x11.frozen 2; have f201 : w1.frozen? ⟨w.heap.size + 1 + 1, 0, none⟩ = false := x21.frozen 0; have f211 : w1.frozen? ⟨w.heap.size + 1 + 1, 1, none⟩ = false := x21.frozen 1; have f221 : w1.frozen? ⟨w.heap.size + 1 + 1, 2, none⟩ = false := x21.frozen 2)
  refine bodyPost_ret (v := .tuple #[.slice none 0 0, .string ⟨#[]⟩, .agg #[.int .i64 0, .int .i64 0, .int .i64 0], .int .i64 E]) (by simp [results, Try.results37, go_sem, *]) rfl ?_
  refine blkPost_err E ?_
  repeat' (first | exact Below.refl _ _ | refine Below.drew ?_ | refine below_drewN ?_ _ | refine Below.alloc ?_ (by first | omega | (simp <;> omega)) _ | refine Below.setCell ?_ (by first | omega | (simp <;> omega)) _ | refine Below.trans ?_ (Below.mono (by assumption) (by first | omega | (simp <;> omega))))
end Go.Proofs.Ytammacofhdbgcaa
