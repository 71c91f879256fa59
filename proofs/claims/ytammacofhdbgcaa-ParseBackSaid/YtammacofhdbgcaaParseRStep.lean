/-
  The reference's step of a parse, walked.
-/
import Derived.Test.YtammacofhdbgcaaRows
import Derived.Test.YtammacofhdbgcaaParseRMatch
import Derived.Test.YtammacofhdbgcaaParseNext
import Derived.Test.YtammacofhdbgcaaGBase
import Derived.Deep.Light
import Derived.Shelf.Abstract
import Derived.Shelf.RegionOpen
import Derived.OwnWalkIn
import Derived.TacticsInMore
import Derived.LoopNIn
import Derived.LoopIn
import Derived.Outline
import Derived.Deep.LoopGhost
import Derived.IntWalk
namespace Go.Proofs.Ytammacofhdbgcaa
open Go.RowKit
set_option linter.unusedSimpArgs false
set_option linter.unusedVariables false
open Go.Shelf
attribute [local go_sem] eq32 Oper.semAt_some

/-- The boxes of the reference's search. -/
def RBox (X R Z : Nat) (L W J O a b c : Int) (sy ch : Bool) (w : World) : Prop := Blk w X 57 [.int .i64 L, .int .i64 W, .int .i64 J, .int .i64 O, .bool sy, .bool ch] ∧ Blk w R 23 [.int .i64 a, .int .i64 b, .int .i64 c] ∧ Blk w Z 32 [.int .i64 0, .int .i64 0, .int .i64 0, .int .i64 0]
theorem RBox.later {X R Z : Nat} {L W J O a b c : Int} {sy ch : Bool} {w w' : World} (h : RBox X R Z L W J O a b c sy ch w) (hb : Below w.heap.size w w') : RBox X R Z L W J O a b c sy ch w' :=
  ⟨h.1.later hb, h.2.1.later hb, h.2.2.later hb⟩
set_option maxRecDepth 100000 in
set_option maxHeartbeats 16000000 in
theorem rstep_s (s : ByteArray) (p0 e : Nat) (L W J O a b c li0 : Int) (sy ch : Bool) (w : World) (hs : s.size ≤ 1048576) (hpk : pOk L W J O) (hp : p0 ≤ e) (he : e ≤ s.size) (hl0 : 0 ≤ li0) (hl1 : li0 ≤ 131072) (lz : Nat) (hlz : lazyT L = (lz : Int)) (hz : lz ≤ 2) :
    Calls Try.prog 71 #[.string s, .int .i64 (p0 : Int), .int .i64 (e : Int), .agg #[.int .i64 L, .int .i64 W, .int .i64 J, .int .i64 O, .bool sy, .bool ch], .agg #[.int .i64 a, .int .i64 b, .int .i64 c], .int .i64 li0] w (NextPost (pnext s e W (depthT L) a b c lz p0 li0) w) := by
  have qM := fun p li w => rmatch_s s p e L W J O a b c li sy ch w hs hpk
  have qL := fun w => rplazy_p L W J O sy ch w
  unfold Rplazy at qL
  rw [if_pos hpk, hlz] at qL
  dsimp only at qL
  clear hpk hlz
  generalize depthT L = dp at qM ⊢
  have QM := Lib.hid qM
  clear qM
  go_enter Try.func71, Try.ntmps71
  go_wp2_with (go_at_call 96; refine (qL _).mono ?_; rintro en w1 ⟨rfl, hb⟩; have hz1 := hb.size; (simp at hz1); have hl1 := bcell hb; obtain ⟨hcc, hff⟩ := hl1)
  have N0 : RBox w.heap.size (w.heap.size + 1) (w.heap.size + 1 + 1) L W J O a b c sy ch w1 := RBox.later ⟨(Blk.alloc (Blk.alloc (by simpa using Blk.new w 57 #[.int .i64 L, .int .i64 W, .int .i64 J, .int .i64 O, .bool sy, .bool ch]) _) _), (Blk.alloc (by simpa using Blk.new (w.alloc (.cells #[.int .i64 L, .int .i64 W, .int .i64 J, .int .i64 O, .bool sy, .bool ch] 57)) 23 #[.int .i64 a, .int .i64 b, .int .i64 c]) _), (by simpa using Blk.new ((w.alloc (.cells #[.int .i64 L, .int .i64 W, .int .i64 J, .int .i64 O, .bool sy, .bool ch] 57)).alloc (.cells #[.int .i64 a, .int .i64 b, .int .i64 c] 23)) 32 #[.int .i64 0, .int .i64 0, .int .i64 0, .int .i64 0])⟩ hb
  have B0 : Below w.heap.size w w1 := by
    repeat' (first | exact Below.refl _ _ | refine Below.drew ?_ | refine below_drewN ?_ _ | refine Below.alloc ?_ (by first | omega | (simp <;> omega)) _ | refine Below.setCell ?_ (by first | omega | (simp <;> omega)) _ | refine Below.trans ?_ (Below.mono (by assumption) (by first | omega | (simp <;> omega))))
  clear hb hcc hff qL
  obtain ⟨R, hR⟩ : ∃ n, w.heap.size + 1 = n := ⟨_, rfl⟩
  obtain ⟨Z, hZ⟩ : ∃ n, R + 1 = n := ⟨_, rfl⟩
  rw [hR, hZ] at N0
  (try simp only [hR, hZ])
  have nXR : ¬ w.heap.size = R := by omega
  have nRX : ¬ R = w.heap.size := by omega
  have nXZ : ¬ w.heap.size = Z := by omega
  have nZX : ¬ Z = w.heap.size := by omega
  have nRZ : ¬ R = Z := by omega
  have nZR : ¬ Z = R := by omega
  have lR : w.heap.size < R := by omega
  have lZ : w.heap.size < Z := by omega
  clear hR hZ
  go_loopg [1, 5] (e - p0) (fun k vp vl wr => ∃ (p : Nat) (li : Int), vp = .int .i64 (p : Int) ∧ vl = .int .i64 li ∧ p0 ≤ p ∧ p ≤ e ∧ k = e - p ∧ li = li0 + (p - p0 : Nat) ∧ Hid (pnext s e W dp a b c lz p0 li0 = pnext s e W dp a b c lz p li) ∧ Below w.heap.size w wr ∧ RBox w.heap.size R Z L W J O a b c sy ch wr)
  case atStart =>
    exact ⟨p0, li0, rfl, rfl, Nat.le_refl _, hp, rfl, by simp, Lib.hid rfl, B0, N0⟩
  case round =>
    clear N0 B0 hz1
    obtain ⟨p, li, rfl, rfl, hp1, hp2, hgk, hli, HP, hb, hN⟩ := hrel
    have HLI := Lib.hid hli
    have HGK := Lib.hid hgk
    have hlb : 0 ≤ li := by omega
    have hlb2 : li ≤ 1310720 := by omega
    clear hgk hli
    by_cases hpe : p < e
    · have hd1 : decide (p < e) = true := by simpa using hpe
      have hd2 : decide ((p : Int) < (e : Int)) = true := by simpa using hpe
      have hq := hN; obtain ⟨x0, x1, x2⟩ := hq; have c00 : wr.cell? ⟨w.heap.size, 0, none⟩ = some (.int .i64 L) := x0.cell 0; have c01 : wr.cell? ⟨w.heap.size, 1, none⟩ = some (.int .i64 W) := x0.cell 1; have c02 : wr.cell? ⟨w.heap.size, 2, none⟩ = some (.int .i64 J) := x0.cell 2; have c03 : wr.cell? ⟨w.heap.size, 3, none⟩ = some (.int .i64 O) := x0.cell 3; have c04 : wr.cell? ⟨w.heap.size, 4, none⟩ = some (.bool sy) := x0.cell 4; have c05 : wr.cell? ⟨w.heap.size, 5, none⟩ = some (.bool ch) := x0.cell 5; have l0 : w.heap.size < wr.heap.size := x0.lt; have r0 : ¬ w.heap.size = wr.heap.size := (by omega); have s0 : ¬ wr.heap.size = w.heap.size := (by omega); have c10 : wr.cell? ⟨R, 0, none⟩ = some (.int .i64 a) := x1.cell 0; have c11 : wr.cell? ⟨R, 1, none⟩ = some (.int .i64 b) := x1.cell 1; have c12 : wr.cell? ⟨R, 2, none⟩ = some (.int .i64 c) := x1.cell 2; have l1 : R < wr.heap.size := x1.lt; have r1 : ¬ R = wr.heap.size := (by omega); have s1 : ¬ wr.heap.size = R := (by omega); have c20 : wr.cell? ⟨Z, 0, none⟩ = some (.int .i64 0) := x2.cell 0; have c21 : wr.cell? ⟨Z, 1, none⟩ = some (.int .i64 0) := x2.cell 1; have c22 : wr.cell? ⟨Z, 2, none⟩ = some (.int .i64 0) := x2.cell 2; have c23 : wr.cell? ⟨Z, 3, none⟩ = some (.int .i64 0) := x2.cell 3; have l2 : Z < wr.heap.size := x2.lt; have r2 : ¬ Z = wr.heap.size := (by omega); have s2 : ¬ wr.heap.size = Z := (by omega); have g2 : ∀ i, wr.frozen? ⟨Z, i, none⟩ = false := (fun i => x2.frozen i)
      have qA := fun w => QM.out p li w
      have hpo := pat_ok s e W dp a b c p li
      have hpn := pnext_none s e W dp a b c lz p li hpe
      have hph := pnext_here s e W dp a b c lz p li hpe
      have hpl := pnext_later s e W dp a b c lz p li hpe
      obtain ⟨R1, hR1⟩ : ∃ R, pat s e W dp a b c p li = R := ⟨_, rfl⟩
      rw [hR1] at qA hpo hpn hph hpl
      obtain ⟨⟨x, y, z, u⟩, fb⟩ := R1
      dsimp only at qA hpo hpn hph hpl
      have HQ := Lib.hid (show _ ∧ _ ∧ _ ∧ _ from ⟨hpo, hpn, hph, hpl⟩)
      clear hR1 hpo hpn hph hpl
      cases fb
      · go_wp2_with (go_at_call 97; refine (qA _).mono ?_; rintro en w1 ⟨rfl, hb1⟩; have hB1 : Below wr.heap.size wr w1 := (by repeat' (first | exact Below.refl _ _ | refine Below.drew ?_ | refine below_drewN ?_ _ | refine Below.alloc ?_ (by first | omega | (simp <;> omega)) _ | refine Below.setCell ?_ (by first | omega | (simp <;> omega)) _ | refine Below.trans ?_ (Below.mono (by assumption) (by first | omega | (simp <;> omega))))); have hN1 := hN.later hB1; have hq1 := hN1; obtain ⟨x01, x11, x21⟩ := hq1; have c001 : w1.cell? ⟨w.heap.size, 0, none⟩ = some (.int .i64 L) := x01.cell 0; have c011 : w1.cell? ⟨w.heap.size, 1, none⟩ = some (.int .i64 W) := x01.cell 1; have c021 : w1.cell? ⟨w.heap.size, 2, none⟩ = some (.int .i64 J) := x01.cell 2; have c031 : w1.cell? ⟨w.heap.size, 3, none⟩ = some (.int .i64 O) := x01.cell 3; have c041 : w1.cell? ⟨w.heap.size, 4, none⟩ = some (.bool sy) := x01.cell 4; have c051 : w1.cell? ⟨w.heap.size, 5, none⟩ = some (.bool ch) := x01.cell 5; have l01 : w.heap.size < w1.heap.size := x01.lt; have r01 : ¬ w.heap.size = w1.heap.size := (by omega); have s01 : ¬ w1.heap.size = w.heap.size := (by omega); have c101 : w1.cell? ⟨R, 0, none⟩ = some (.int .i64 a) := x11.cell 0; have c111 : w1.cell? ⟨R, 1, none⟩ = some (.int .i64 b) := x11.cell 1; have c121 : w1.cell? ⟨R, 2, none⟩ = some (.int .i64 c) := x11.cell 2; have l11 : R < w1.heap.size := x11.lt; have r11 : ¬ R = w1.heap.size := (by omega); have s11 : ¬ w1.heap.size = R := (by omega); have c201 : w1.cell? ⟨Z, 0, none⟩ = some (.int .i64 0) := x21.cell 0; have c211 : w1.cell? ⟨Z, 1, none⟩ = some (.int .i64 0) := x21.cell 1; have c221 : w1.cell? ⟨Z, 2, none⟩ = some (.int .i64 0) := x21.cell 2; have c231 : w1.cell? ⟨Z, 3, none⟩ = some (.int .i64 0) := x21.cell 3; have l21 : Z < w1.heap.size := x21.lt; have r21 : ¬ Z = w1.heap.size := (by omega); have s21 : ¬ w1.heap.size = Z := (by omega); have g21 : ∀ i, w1.frozen? ⟨Z, i, none⟩ = false := (fun i => x21.frozen i))
        obtain ⟨h1, h2, h3, h4⟩ := HQ.out
        have hNV : RBox w.heap.size R Z L W J O a b c sy ch (w1.alloc (.cells #[.int .i64 x, .int .i64 y, .int .i64 z, .int .i64 u] 32)) := hN1.later (Below.alloc (Below.refl _ _) (Nat.le_refl _) _)
        have hBV : Below w.heap.size w (w1.alloc (.cells #[.int .i64 x, .int .i64 y, .int .i64 z, .int .i64 u] 32)) := (hb.trans (hB1.mono hb.size)).alloc (by omega) _
        go_roundg (e - (p + 1))
        case measure => have := HGK.out; omega
        case rel => exact ⟨p + 1, li + 1, by go_num, by go_num, by omega, by omega, rfl, by rw [HLI.out]; omega, Lib.hid (HP.out.trans (h2 trivial)), hBV, hNV⟩
      · go_wp2_with (go_at_call 97; refine (qA _).mono ?_; rintro en w1 ⟨rfl, hb1⟩; have hB1 : Below wr.heap.size wr w1 := (by repeat' (first | exact Below.refl _ _ | refine Below.drew ?_ | refine below_drewN ?_ _ | refine Below.alloc ?_ (by first | omega | (simp <;> omega)) _ | refine Below.setCell ?_ (by first | omega | (simp <;> omega)) _ | refine Below.trans ?_ (Below.mono (by assumption) (by first | omega | (simp <;> omega))))); have hN1 := hN.later hB1; have hq1 := hN1; obtain ⟨x01, x11, x21⟩ := hq1; have c001 : w1.cell? ⟨w.heap.size, 0, none⟩ = some (.int .i64 L) := x01.cell 0; have c011 : w1.cell? ⟨w.heap.size, 1, none⟩ = some (.int .i64 W) := x01.cell 1; have c021 : w1.cell? ⟨w.heap.size, 2, none⟩ = some (.int .i64 J) := x01.cell 2; have c031 : w1.cell? ⟨w.heap.size, 3, none⟩ = some (.int .i64 O) := x01.cell 3; have c041 : w1.cell? ⟨w.heap.size, 4, none⟩ = some (.bool sy) := x01.cell 4; have c051 : w1.cell? ⟨w.heap.size, 5, none⟩ = some (.bool ch) := x01.cell 5; have l01 : w.heap.size < w1.heap.size := x01.lt; have r01 : ¬ w.heap.size = w1.heap.size := (by omega); have s01 : ¬ w1.heap.size = w.heap.size := (by omega); have c101 : w1.cell? ⟨R, 0, none⟩ = some (.int .i64 a) := x11.cell 0; have c111 : w1.cell? ⟨R, 1, none⟩ = some (.int .i64 b) := x11.cell 1; have c121 : w1.cell? ⟨R, 2, none⟩ = some (.int .i64 c) := x11.cell 2; have l11 : R < w1.heap.size := x11.lt; have r11 : ¬ R = w1.heap.size := (by omega); have s11 : ¬ w1.heap.size = R := (by omega); have c201 : w1.cell? ⟨Z, 0, none⟩ = some (.int .i64 0) := x21.cell 0; have c211 : w1.cell? ⟨Z, 1, none⟩ = some (.int .i64 0) := x21.cell 1; have c221 : w1.cell? ⟨Z, 2, none⟩ = some (.int .i64 0) := x21.cell 2; have c231 : w1.cell? ⟨Z, 3, none⟩ = some (.int .i64 0) := x21.cell 3; have l21 : Z < w1.heap.size := x21.lt; have r21 : ¬ Z = w1.heap.size := (by omega); have s21 : ¬ w1.heap.size = Z := (by omega); have g21 : ∀ i, w1.frozen? ⟨Z, i, none⟩ = false := (fun i => x21.frozen i))
        obtain ⟨h1, h2, h3, h4⟩ := HQ.out
        obtain ⟨qq, vv, yy, zz, t1, t2, t3, t4, t5, t6, t7, t8, t9, t10, t11, t12, t13, t14, t15⟩ := h1 trivial
        have hub : -100 ≤ u ∧ u ≤ 4194304 := by
          obtain ⟨n, rfl⟩ : ∃ n : Nat, vv = (n : Int) := ⟨vv.toNat, by omega⟩
          have := hi_bd n (by omega)
          simp only [Prod.mk.injEq] at t15
          obtain ⟨rfl, rfl, rfl, rfl⟩ := t15
          unfold mgain
          rw [Int.toNat_natCast]
          omega
        have HH := Lib.hid (show _ ∧ _ from ⟨h3, h4⟩)
        clear h1 h2 h3 h4 t1 t2 t3 t4 t5 t6 t7 t8 t9 t10 t11 t12 t13 t14 t15
        have hNV : RBox w.heap.size R Z L W J O a b c sy ch (w1.alloc (.cells #[.int .i64 x, .int .i64 y, .int .i64 z, .int .i64 u] 32)) := hN1.later (Below.alloc (Below.refl _ _) (Nat.le_refl _) _)
        have hBV : Below w.heap.size w (w1.alloc (.cells #[.int .i64 x, .int .i64 y, .int .i64 z, .int .i64 u] 32)) := (hb.trans (hB1.mono hb.size)).alloc (by omega) _
        have hMV : Blk (w1.alloc (.cells #[.int .i64 x, .int .i64 y, .int .i64 z, .int .i64 u] 32)) w1.heap.size 32 [.int .i64 x, .int .i64 y, .int .i64 z, .int .i64 u] := Blk.new w1 32 #[.int .i64 x, .int .i64 y, .int .i64 z, .int .i64 u]
        have hZV : Z < w1.heap.size := l21
        obtain ⟨V, hV⟩ : ∃ V, (w1.alloc (.cells #[.int .i64 x, .int .i64 y, .int .i64 z, .int .i64 u] 32)) = V := ⟨_, rfl⟩
        obtain ⟨M, hM⟩ : ∃ M, w1.heap.size = M := ⟨_, rfl⟩
        rw [hV, hM] at hMV
        rw [hM] at hZV
        rw [hV] at hNV hBV
        rw [hV, hM]
        have nMZ : ¬ M = Z := by omega
        have nZM : ¬ Z = M := by omega
        clear hV hM hN hb hb1 hB1 hN1 qA HQ hd1 hd2 x0 x01 x1 x11 x2 x21 c00 c001 c01 c011 c02 c021 c03 c031 c04 c041 c05 c051 c10 c101 c11 c111 c12 c121 c20 c201 c21 c211 c22 c221 c23 c231 l0 l01 l1 l11 l2 l21 r0 r01 r1 r11 r2 r21 s0 s01 s1 s11 s2 s21 g2 g21
        obtain ⟨Vo, rfl⟩ : ∃ Vo, Vo = wr := ⟨_, rfl⟩
        obtain ⟨hub1, hub2⟩ := hub
        go_loopg [19, 20] (lz + 1) (fun k vt v wi => ∃ d t : Nat, v = .int .i64 (d : Int) ∧ vt = .int .i64 (t : Int) ∧ 1 ≤ d ∧ d ≤ lz + 1 + (if t = 0 then 0 else 1) ∧ k = lz + 2 - d ∧ Hid ((t = 0 ∧ plater s e W dp a b c lz p li u = pgo (pbet s e W dp a b c p li u) p e lz (lz + 1 - d) d) ∨ (t ≠ 0 ∧ p + t < e ∧ plater s e W dp a b c lz p li u = t)) ∧ Below V.heap.size V wi)
        case atStart => exact ⟨1, 0, rfl, rfl, by omega, by simp, by omega, Lib.hid (.inl ⟨rfl, rfl⟩), Below.refl _ _⟩
        case round =>
          obtain ⟨d, t, rfl, rfl, hd3, hd4, hgk, HG, hbi⟩ := hrel
          have hd5 : d ≤ lz + 2 := by split at hd4 <;> omega
          have hd6 : t = 0 → d ≤ lz + 1 := fun h => by rw [if_pos h] at hd4; omega
          have HGI := Lib.hid (show gk = lz + 2 - d ∧ (t = 0 → d ≤ lz + 1) from ⟨hgk, hd6⟩)
          clear hgk hd4 hd6
          have hN := hNV.later hbi
          have hMi := hMV.later hbi
          have hBi : Below w.heap.size w wr := hBV.trans (hbi.mono hBV.size)
          have hq := hN; obtain ⟨x0, x1, x2⟩ := hq; have c00 : wr.cell? ⟨w.heap.size, 0, none⟩ = some (.int .i64 L) := x0.cell 0; have c01 : wr.cell? ⟨w.heap.size, 1, none⟩ = some (.int .i64 W) := x0.cell 1; have c02 : wr.cell? ⟨w.heap.size, 2, none⟩ = some (.int .i64 J) := x0.cell 2; have c03 : wr.cell? ⟨w.heap.size, 3, none⟩ = some (.int .i64 O) := x0.cell 3; have c04 : wr.cell? ⟨w.heap.size, 4, none⟩ = some (.bool sy) := x0.cell 4; have c05 : wr.cell? ⟨w.heap.size, 5, none⟩ = some (.bool ch) := x0.cell 5; have l0 : w.heap.size < wr.heap.size := x0.lt; have r0 : ¬ w.heap.size = wr.heap.size := (by omega); have s0 : ¬ wr.heap.size = w.heap.size := (by omega); have c10 : wr.cell? ⟨R, 0, none⟩ = some (.int .i64 a) := x1.cell 0; have c11 : wr.cell? ⟨R, 1, none⟩ = some (.int .i64 b) := x1.cell 1; have c12 : wr.cell? ⟨R, 2, none⟩ = some (.int .i64 c) := x1.cell 2; have l1 : R < wr.heap.size := x1.lt; have r1 : ¬ R = wr.heap.size := (by omega); have s1 : ¬ wr.heap.size = R := (by omega); have c20 : wr.cell? ⟨Z, 0, none⟩ = some (.int .i64 0) := x2.cell 0; have c21 : wr.cell? ⟨Z, 1, none⟩ = some (.int .i64 0) := x2.cell 1; have c22 : wr.cell? ⟨Z, 2, none⟩ = some (.int .i64 0) := x2.cell 2; have c23 : wr.cell? ⟨Z, 3, none⟩ = some (.int .i64 0) := x2.cell 3; have l2 : Z < wr.heap.size := x2.lt; have r2 : ¬ Z = wr.heap.size := (by omega); have s2 : ¬ wr.heap.size = Z := (by omega); have g2 : ∀ i, wr.frozen? ⟨Z, i, none⟩ = false := (fun i => x2.frozen i); have xm := hMi; have cm0 : wr.cell? ⟨M, 0, none⟩ = some (.int .i64 x) := xm.cell 0; have cm1 : wr.cell? ⟨M, 1, none⟩ = some (.int .i64 y) := xm.cell 1; have cm2 : wr.cell? ⟨M, 2, none⟩ = some (.int .i64 z) := xm.cell 2; have cm3 : wr.cell? ⟨M, 3, none⟩ = some (.int .i64 u) := xm.cell 3; have lm : M < wr.heap.size := xm.lt; have rm : ¬ M = wr.heap.size := (by omega); have sm : ¬ wr.heap.size = M := (by omega)
          by_cases ht : t = 0
          · subst ht
            by_cases hgo : d ≤ lz ∧ p + d < e
            · obtain ⟨hd7, hd8⟩ := hgo
              have e1 : decide (d ≤ lz) = true := by simpa using hd7
              have e3 : decide (p + d < e) = true := by simpa using hd8
              have qB := fun w => QM.out (p + d) (li + (d : Int)) w
              have hpg : pgo (pbet s e W dp a b c p li u) p e lz (lz + 1 - d) d = if pbet s e W dp a b c p li u d then d else pgo (pbet s e W dp a b c p li u) p e lz (lz + 1 - (d + 1)) (d + 1) := by
                obtain ⟨fu, hfu⟩ : ∃ fu, lz + 1 - d = fu + 1 := ⟨lz - d, by omega⟩
                rw [hfu, pgo, if_pos ⟨hd7, hd8⟩, show lz + 1 - (d + 1) = fu by omega]
              have hbt : pbet s e W dp a b c p li u d = ((pat s e W dp a b c (p + d) (li + (d : Int))).2 && decide (u + 4 * (d : Int) < (pat s e W dp a b c (p + d) (li + (d : Int))).1.2.2.2)) := rfl
              rw [hbt] at hpg
              generalize pat s e W dp a b c (p + d) (li + (d : Int)) = R2 at qB hpg
              obtain ⟨⟨x', y', z', u'⟩, fb⟩ := R2
              dsimp only at qB hpg
              rw [show ((p + d : Nat) : Int) = (p : Int) + (d : Int) by omega] at qB
              have HPG := Lib.hid hpg
              clear hpg hbt
              by_cases hyes : fb = true ∧ u + 4 * (d : Int) < u'
              · obtain ⟨rfl, hu⟩ := hyes
                have e5 : decide (u + 4 * (d : Int) < u') = true := by simpa using hu
                go_wp2_with (go_at_call 97; refine (qB _).mono ?_; rintro en w2 ⟨rfl, hb2⟩; have hB2 : Below wr.heap.size wr w2 := (by repeat' (first | exact Below.refl _ _ | refine Below.drew ?_ | refine below_drewN ?_ _ | refine Below.alloc ?_ (by first | omega | (simp <;> omega)) _ | refine Below.setCell ?_ (by first | omega | (simp <;> omega)) _ | refine Below.trans ?_ (Below.mono (by assumption) (by first | omega | (simp <;> omega))))); have hN2 := hN.later hB2; have hq2 := hN2; obtain ⟨x02, x12, x22⟩ := hq2; have c002 : w2.cell? ⟨w.heap.size, 0, none⟩ = some (.int .i64 L) := x02.cell 0; have c012 : w2.cell? ⟨w.heap.size, 1, none⟩ = some (.int .i64 W) := x02.cell 1; have c022 : w2.cell? ⟨w.heap.size, 2, none⟩ = some (.int .i64 J) := x02.cell 2; have c032 : w2.cell? ⟨w.heap.size, 3, none⟩ = some (.int .i64 O) := x02.cell 3; have c042 : w2.cell? ⟨w.heap.size, 4, none⟩ = some (.bool sy) := x02.cell 4; have c052 : w2.cell? ⟨w.heap.size, 5, none⟩ = some (.bool ch) := x02.cell 5; have l02 : w.heap.size < w2.heap.size := x02.lt; have r02 : ¬ w.heap.size = w2.heap.size := (by omega); have s02 : ¬ w2.heap.size = w.heap.size := (by omega); have c102 : w2.cell? ⟨R, 0, none⟩ = some (.int .i64 a) := x12.cell 0; have c112 : w2.cell? ⟨R, 1, none⟩ = some (.int .i64 b) := x12.cell 1; have c122 : w2.cell? ⟨R, 2, none⟩ = some (.int .i64 c) := x12.cell 2; have l12 : R < w2.heap.size := x12.lt; have r12 : ¬ R = w2.heap.size := (by omega); have s12 : ¬ w2.heap.size = R := (by omega); have c202 : w2.cell? ⟨Z, 0, none⟩ = some (.int .i64 0) := x22.cell 0; have c212 : w2.cell? ⟨Z, 1, none⟩ = some (.int .i64 0) := x22.cell 1; have c222 : w2.cell? ⟨Z, 2, none⟩ = some (.int .i64 0) := x22.cell 2; have c232 : w2.cell? ⟨Z, 3, none⟩ = some (.int .i64 0) := x22.cell 3; have l22 : Z < w2.heap.size := x22.lt; have r22 : ¬ Z = w2.heap.size := (by omega); have s22 : ¬ w2.heap.size = Z := (by omega); have g22 : ∀ i, w2.frozen? ⟨Z, i, none⟩ = false := (fun i => x22.frozen i); have xm2 := hMi.later hB2; have cm02 : w2.cell? ⟨M, 0, none⟩ = some (.int .i64 x) := xm2.cell 0; have cm12 : w2.cell? ⟨M, 1, none⟩ = some (.int .i64 y) := xm2.cell 1; have cm22 : w2.cell? ⟨M, 2, none⟩ = some (.int .i64 z) := xm2.cell 2; have cm32 : w2.cell? ⟨M, 3, none⟩ = some (.int .i64 u) := xm2.cell 3; have lm2 : M < w2.heap.size := xm2.lt; have rm2 : ¬ M = w2.heap.size := (by omega); have sm2 : ¬ w2.heap.size = M := (by omega))
                have hPX : plater s e W dp a b c lz p li u = d := by
                  rcases HG.out with ⟨_, h⟩ | ⟨h, _⟩
                  · exact h.trans (HPG.out.trans (by simp [hu]))
                  · exact absurd rfl h
                have hBX := (hbi.trans (hB2.mono hbi.size)).alloc (by have := hbi.size; have := hB2.size; omega) (.cells #[.int .i64 x', .int .i64 y', .int .i64 z', .int .i64 u'] 32)
                go_roundg (lz + 2 - (d + 1))
                case measure => have := HGI.out; omega
                case rel => exact ⟨d + 1, d, by go_num, rfl, by omega, by rw [if_neg (by omega)]; omega, rfl, Lib.hid (.inr ⟨by omega, hd8, hPX⟩), hBX⟩
              · have hPX : plater s e W dp a b c lz p li u = pgo (pbet s e W dp a b c p li u) p e lz (lz + 1 - (d + 1)) (d + 1) := by
                  rcases HG.out with ⟨_, h⟩ | ⟨h, _⟩
                  · exact h.trans (HPG.out.trans (if_neg (by simpa using hyes)))
                  · exact absurd rfl h
                have HPX := Lib.hid hPX
                clear hPX
                have e5 : fb = false ∨ (fb = true ∧ decide (u + 4 * (d : Int) < u') = false) := by
                  cases fb
                  · exact .inl rfl
                  · exact .inr ⟨rfl, by simpa using hyes⟩
                clear hyes
                rcases e5 with rfl | ⟨rfl, e5⟩
                all_goals
                  go_wp2_with (go_at_call 97; refine (qB _).mono ?_; rintro en w2 ⟨rfl, hb2⟩; have hB2 : Below wr.heap.size wr w2 := (by repeat' (first | exact Below.refl _ _ | refine Below.drew ?_ | refine below_drewN ?_ _ | refine Below.alloc ?_ (by first | omega | (simp <;> omega)) _ | refine Below.setCell ?_ (by first | omega | (simp <;> omega)) _ | refine Below.trans ?_ (Below.mono (by assumption) (by first | omega | (simp <;> omega))))); have hN2 := hN.later hB2; have hq2 := hN2; obtain ⟨x02, x12, x22⟩ := hq2; have c002 : w2.cell? ⟨w.heap.size, 0, none⟩ = some (.int .i64 L) := x02.cell 0; have c012 : w2.cell? ⟨w.heap.size, 1, none⟩ = some (.int .i64 W) := x02.cell 1; have c022 : w2.cell? ⟨w.heap.size, 2, none⟩ = some (.int .i64 J) := x02.cell 2; have c032 : w2.cell? ⟨w.heap.size, 3, none⟩ = some (.int .i64 O) := x02.cell 3; have c042 : w2.cell? ⟨w.heap.size, 4, none⟩ = some (.bool sy) := x02.cell 4; have c052 : w2.cell? ⟨w.heap.size, 5, none⟩ = some (.bool ch) := x02.cell 5; have l02 : w.heap.size < w2.heap.size := x02.lt; have r02 : ¬ w.heap.size = w2.heap.size := (by omega); have s02 : ¬ w2.heap.size = w.heap.size := (by omega); have c102 : w2.cell? ⟨R, 0, none⟩ = some (.int .i64 a) := x12.cell 0; have c112 : w2.cell? ⟨R, 1, none⟩ = some (.int .i64 b) := x12.cell 1; have c122 : w2.cell? ⟨R, 2, none⟩ = some (.int .i64 c) := x12.cell 2; have l12 : R < w2.heap.size := x12.lt; have r12 : ¬ R = w2.heap.size := (by omega); have s12 : ¬ w2.heap.size = R := (by omega); have c202 : w2.cell? ⟨Z, 0, none⟩ = some (.int .i64 0) := x22.cell 0; have c212 : w2.cell? ⟨Z, 1, none⟩ = some (.int .i64 0) := x22.cell 1; have c222 : w2.cell? ⟨Z, 2, none⟩ = some (.int .i64 0) := x22.cell 2; have c232 : w2.cell? ⟨Z, 3, none⟩ = some (.int .i64 0) := x22.cell 3; have l22 : Z < w2.heap.size := x22.lt; have r22 : ¬ Z = w2.heap.size := (by omega); have s22 : ¬ w2.heap.size = Z := (by omega); have g22 : ∀ i, w2.frozen? ⟨Z, i, none⟩ = false := (fun i => x22.frozen i); have xm2 := hMi.later hB2; have cm02 : w2.cell? ⟨M, 0, none⟩ = some (.int .i64 x) := xm2.cell 0; have cm12 : w2.cell? ⟨M, 1, none⟩ = some (.int .i64 y) := xm2.cell 1; have cm22 : w2.cell? ⟨M, 2, none⟩ = some (.int .i64 z) := xm2.cell 2; have cm32 : w2.cell? ⟨M, 3, none⟩ = some (.int .i64 u) := xm2.cell 3; have lm2 : M < w2.heap.size := xm2.lt; have rm2 : ¬ M = w2.heap.size := (by omega); have sm2 : ¬ w2.heap.size = M := (by omega))
                  have hBX := (hbi.trans (hB2.mono hbi.size)).alloc (by have := hbi.size; have := hB2.size; omega) (.cells #[.int .i64 x', .int .i64 y', .int .i64 z', .int .i64 u'] 32)
                  go_roundg (lz + 2 - (d + 1))
                  case measure => have := HGI.out; omega
                  case rel => exact ⟨d + 1, 0, by go_num, rfl, by omega, by rw [if_pos rfl]; omega, rfl, Lib.hid (.inl ⟨rfl, HPX.out⟩), hBX⟩
            · have hPX : plater s e W dp a b c lz p li u = 0 := by
                rcases HG.out with ⟨_, h⟩ | ⟨h, _⟩
                · rw [h]
                  cases hff : lz + 1 - d with
                  | zero => rfl
                  | succ f => rw [pgo, if_neg hgo]
                · exact absurd rfl h
              have HPY := Lib.hid (HP.out.trans (HH.out.1 trivial hPX))
              clear hPX
              have e5 : (decide (d ≤ lz) = false ∧ ¬ (d ≤ lz)) ∨ (decide (d ≤ lz) = true ∧ decide (p + d < e) = false ∧ decide ((p : Int) + (d : Int) < (e : Int)) = false ∧ ¬ (p + d < e)) := by
                by_cases h : d ≤ lz
                · exact .inr ⟨by simpa using h, by simp; omega, by simp; omega, by omega⟩
                · exact .inl ⟨by simpa using h, h⟩
              clear hgo
              rcases e5 with ⟨e1, e2⟩ | ⟨e1, e3, e4, e6⟩
              all_goals
                go_wp2
                go_region
                go_wp2
                (try rw [Exit.noGoto_ret])
                refine bodyPost_ret (v := .tuple #[.int .i64 (p : Int), .agg #[.int .i64 x, .int .i64 y, .int .i64 z, .int .i64 u], .bool true]) (by simp [results, Try.results71, go_sem, *]) rfl ?_
                rw [HPY.out]
                refine ⟨rfl, ?_⟩
                repeat' (first | exact Below.refl _ _ | refine Below.drew ?_ | refine below_drewN ?_ _ | refine Below.alloc ?_ (by first | omega | (simp <;> omega)) _ | refine Below.setCell ?_ (by first | omega | (simp <;> omega)) _ | refine Below.trans ?_ (Below.mono (by assumption) (by first | omega | (simp <;> omega))))
          · have hPX : plater s e W dp a b c lz p li u = t ∧ p + t < e := by
              rcases HG.out with ⟨h, _⟩ | ⟨_, h1, h2⟩
              · exact absurd h ht
              · exact ⟨h2, h1⟩
            have HPY := Lib.hid (HP.out.trans (HH.out.2 trivial t hPX.1 ht))
            have hpt := hPX.2
            have ht1 : 1 ≤ t := by omega
            have e7 : ((t : Int) == 0) = false := by simpa using ht
            have e8 : decide ((t : Int) = 0) = false := by simpa using ht
            have e9 : decide (t = 0) = false := by simpa using ht
            have HT := Lib.hid ht
            clear hPX ht
            have hBX := hBi
            by_cases h1 : d ≤ lz
            · by_cases h2 : p + d < e
              all_goals
                have e1 : decide (d ≤ lz) = true := by simpa using h1
                have e3 : decide (p + d < e) = _ := rfl
                go_wp2
                go_roundg (e - (p + t))
                case measure => have := HGK.out; omega
                case rel => exact ⟨p + t, li + (t : Int), by go_num, by go_num, by omega, by omega, rfl, by rw [HLI.out]; omega, HPY, hBX, hN⟩
            · have e1 : decide (d ≤ lz) = false := by simpa using h1
              go_wp2
              go_roundg (e - (p + t))
              case measure => have := HGK.out; omega
              case rel => exact ⟨p + t, li + (t : Int), by go_num, by go_num, by omega, by omega, rfl, by rw [HLI.out]; omega, HPY, hBX, hN⟩
    · have hd1 : decide (p < e) = false := by simpa using hpe
      have hd2 : decide ((p : Int) < (e : Int)) = false := by simpa using hpe
      have HPY := Lib.hid (HP.out.trans (pnext_end s e W dp a b c lz p li hpe))
      have hq := hN; obtain ⟨x0, x1, x2⟩ := hq; have c00 : wr.cell? ⟨w.heap.size, 0, none⟩ = some (.int .i64 L) := x0.cell 0; have c01 : wr.cell? ⟨w.heap.size, 1, none⟩ = some (.int .i64 W) := x0.cell 1; have c02 : wr.cell? ⟨w.heap.size, 2, none⟩ = some (.int .i64 J) := x0.cell 2; have c03 : wr.cell? ⟨w.heap.size, 3, none⟩ = some (.int .i64 O) := x0.cell 3; have c04 : wr.cell? ⟨w.heap.size, 4, none⟩ = some (.bool sy) := x0.cell 4; have c05 : wr.cell? ⟨w.heap.size, 5, none⟩ = some (.bool ch) := x0.cell 5; have l0 : w.heap.size < wr.heap.size := x0.lt; have r0 : ¬ w.heap.size = wr.heap.size := (by omega); have s0 : ¬ wr.heap.size = w.heap.size := (by omega); have c10 : wr.cell? ⟨R, 0, none⟩ = some (.int .i64 a) := x1.cell 0; have c11 : wr.cell? ⟨R, 1, none⟩ = some (.int .i64 b) := x1.cell 1; have c12 : wr.cell? ⟨R, 2, none⟩ = some (.int .i64 c) := x1.cell 2; have l1 : R < wr.heap.size := x1.lt; have r1 : ¬ R = wr.heap.size := (by omega); have s1 : ¬ wr.heap.size = R := (by omega); have c20 : wr.cell? ⟨Z, 0, none⟩ = some (.int .i64 0) := x2.cell 0; have c21 : wr.cell? ⟨Z, 1, none⟩ = some (.int .i64 0) := x2.cell 1; have c22 : wr.cell? ⟨Z, 2, none⟩ = some (.int .i64 0) := x2.cell 2; have c23 : wr.cell? ⟨Z, 3, none⟩ = some (.int .i64 0) := x2.cell 3; have l2 : Z < wr.heap.size := x2.lt; have r2 : ¬ Z = wr.heap.size := (by omega); have s2 : ¬ wr.heap.size = Z := (by omega); have g2 : ∀ i, wr.frozen? ⟨Z, i, none⟩ = false := (fun i => x2.frozen i)
      go_wp2
      (try rw [Exit.noGoto_ret])
      refine bodyPost_ret (v := .tuple #[.int .i64 (e : Int), .agg #[.int .i64 0, .int .i64 0, .int .i64 0, .int .i64 0], .bool false]) (by simp [results, Try.results71, go_sem, *]) rfl ?_
      rw [HPY.out]
      refine ⟨rfl, ?_⟩
      repeat' (first | exact Below.refl _ _ | refine Below.drew ?_ | refine below_drewN ?_ _ | refine Below.alloc ?_ (by first | omega | (simp <;> omega)) _ | refine Below.setCell ?_ (by first | omega | (simp <;> omega)) _ | refine Below.trans ?_ (Below.mono (by assumption) (by first | omega | (simp <;> omega))))
end Go.Proofs.Ytammacofhdbgcaa
