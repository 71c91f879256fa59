/-
  The reference reads a text of parameters: walked.
-/
import Derived.Test.YtmblpmaelglnpaaDoorRows
import Derived.Test.YtmblpmaelglnpaaDoorPrmRef2
import Derived.Test.YtmblpmaelglnpaaDoorPrmParse
import Derived.Test.YtmblpmaelglnpaaDoorGBase
import Derived.Deep.Light
import Derived.Shelf.Abstract
import Derived.Shelf.RegionOpen
import Derived.OwnWalkIn
import Derived.TacticsInMore
import Derived.LoopNIn
import Derived.LoopIn
import Derived.Outline
import Derived.IntWalk
import Derived.WalkMore
namespace Go.Proofs.YtmblpmaelglnpaaDoor
open Go.RowKit
set_option linter.unusedSimpArgs false
set_option linter.unusedVariables false
open Go.Shelf
attribute [local go_sem] Oper.semAt_some

def rf4 (a b c d : Nat) (s : List UInt8) : Option Prm := if (rcheck (rsync s).2).2 = [] then some ⟨a, b, c, d, (rsync s).1, (rcheck (rsync s).2).1⟩ else none
def rf3 (a b c : Nat) (s : List UInt8) : Option Prm := match rpart pOv s with | none => none | some (d, s) => rf4 a b c d s
def rf2 (a b : Nat) (s : List UInt8) : Option Prm := match rpart pJo s with | none => none | some (c, s) => rf3 a b c s
def rf1 (a : Nat) (s : List UInt8) : Option Prm := match rpart pWi s with | none => none | some (b, s) => rf2 a b s
theorem rform_rf (s : List UInt8) : rform s = match rpart pLv s with | none => none | some (a, s) => rf1 a s := rfl
/-- What is left of the form, i parts being read. -/
def rK (i a b c d : Nat) (r : List UInt8) : Option Prm :=
  match i with
  | 0 => rform r
  | 1 => rf1 a r
  | 2 => rf2 a b r
  | 3 => rf3 a b c r
  | _ => rf4 a b c d r
theorem rnum_len {l q : List UInt8} {m : Nat} (h : rnum 0 0 l = some (m, q)) : q.length ≤ l.length := by
  have := (rnum_inv l 0 0 [] m q (Or.inl ⟨rfl, rfl, rfl⟩) (by omega) h).1
  have h2 := congrArg List.length this
  simp at h2
  omega
theorem aft_le {w l t : List UInt8} (h : aft w l = some t) : t.length ≤ l.length := by
  rw [aft_inv h]
  simp
theorem rpart_none1 {w l : List UInt8} (h : aft w l = none) : rpart w l = none := by unfold rpart; rw [h]
theorem rpart_some1 {w l t : List UInt8} (h : aft w l = some t) : rpart w l = rnum 0 0 t := by unfold rpart; rw [h]
set_option maxRecDepth 100000 in
set_option maxHeartbeats 8000000 in
theorem rparse_p (s : ByteArray) (hs : s.size ≤ 1048576) (w : World) : Calls Tryd.prog 40 #[.string s] w (PrmPost (rparse s.data.toList) w) := by
  go_enter Tryd.func40, Tryd.ntmps40
  go_wp2
  obtain ⟨H, hH⟩ : ∃ H, w.heap.size = H := ⟨_, rfl⟩
  obtain ⟨W0, hW0⟩ : ∃ W0, (((w.alloc (.cells #[.int .i64 0, .int .i64 0, .int .i64 0, .int .i64 0, .bool false, .bool false] 58)).alloc (.cells #[.string ⟨#[108, 101, 118, 101, 108, 32]⟩, .string ⟨#[32, 119, 105, 110, 100, 111, 119, 32]⟩, .string ⟨#[32, 106, 111, 98, 32]⟩, .string ⟨#[32, 111, 118, 101, 114, 108, 97, 112, 32]⟩] 9)).alloc (.cells #[.int .i64 0, .int .i64 0, .int .i64 0, .int .i64 0] 106)) = W0 := ⟨_, rfl⟩
  have w0b : Below H w W0 := by
    rw [← hW0, ← hH]
    repeat' (first | with_reducible exact Below.refl _ _ | with_reducible refine Below.drew ?_ | with_reducible refine below_drewN ?_ _ | with_reducible refine Below.alloc ?_ (by first | omega | (simp <;> omega)) _ | with_reducible refine Below.setCell ?_ (by first | omega | (dsimp only; omega) | (simp <;> omega)) _ | with_reducible refine Below.trans ?_ (Below.mono (by assumption) (by first | omega | (simp <;> omega))))
  have k1 : Blk W0 H 58 (pcells prm0) := by rw [← hW0, ← hH]; exact ((Blk.new w _ _).alloc _).alloc _
  have k2 : Blk W0 (H + 1) 9 [.string ⟨#[108, 101, 118, 101, 108, 32]⟩, .string ⟨#[32, 119, 105, 110, 100, 111, 119, 32]⟩, .string ⟨#[32, 106, 111, 98, 32]⟩, .string ⟨#[32, 111, 118, 101, 114, 108, 97, 112, 32]⟩] := by rw [← hW0, ← hH]; have := (Blk.new (w.alloc (.cells #[.int .i64 0, .int .i64 0, .int .i64 0, .int .i64 0, .bool false, .bool false] 58)) 9 #[.string ⟨#[108, 101, 118, 101, 108, 32]⟩, .string ⟨#[32, 119, 105, 110, 100, 111, 119, 32]⟩, .string ⟨#[32, 106, 111, 98, 32]⟩, .string ⟨#[32, 111, 118, 101, 114, 108, 97, 112, 32]⟩]).alloc (.cells #[.int .i64 0, .int .i64 0, .int .i64 0, .int .i64 0] 106); rwa [World.size_alloc] at this
  have k3 : Blk W0 (H + 2) 106 [.int .i64 0, .int .i64 0, .int .i64 0, .int .i64 0] := by rw [← hW0, ← hH]; have := Blk.new ((w.alloc (.cells #[.int .i64 0, .int .i64 0, .int .i64 0, .int .i64 0, .bool false, .bool false] 58)).alloc (.cells #[.string ⟨#[108, 101, 118, 101, 108, 32]⟩, .string ⟨#[32, 119, 105, 110, 100, 111, 119, 32]⟩, .string ⟨#[32, 106, 111, 98, 32]⟩, .string ⟨#[32, 111, 118, 101, 114, 108, 97, 112, 32]⟩] 9)) 106 #[.int .i64 0, .int .i64 0, .int .i64 0, .int .i64 0]; rwa [World.size_alloc, World.size_alloc] at this
  have w0s : W0.heap.size = H + 3 := by rw [← hW0, ← hH]; simp
  rw [hW0]
  unfold PrmPost
  (try simp only [hH])
  (try simp only [Nat.add_assoc, Nat.reduceAdd])
  clear hW0
  have w0t : H + 3 ≤ W0.heap.size := by omega
  clear w0s
  go_loopw [0, 6] (fun v0 v6 wr => ∃ (i a b c d : Nat) (r : ByteArray), v0 = .string r ∧ v6 = .int .i64 (i : Int) ∧ i ≤ 4 ∧ r.size ≤ s.size ∧ Hid (rK i a b c d r.data.toList = rform s.data.toList) ∧ Blk wr H 58 (pcells prm0) ∧ Blk wr (H + 1) 9 [.string ⟨#[108, 101, 118, 101, 108, 32]⟩, .string ⟨#[32, 119, 105, 110, 100, 111, 119, 32]⟩, .string ⟨#[32, 106, 111, 98, 32]⟩, .string ⟨#[32, 111, 118, 101, 114, 108, 97, 112, 32]⟩] ∧ Blk wr (H + 2) 106 [.int .i64 (a : Int), .int .i64 (b : Int), .int .i64 (c : Int), .int .i64 (d : Int)] ∧ Below H w wr ∧ H + 3 ≤ wr.heap.size) (fun _ v _ => 4 - (intOf v).toNat)
  case atStart => exact ⟨0, 0, 0, 0, 0, s, rfl, rfl, by omega, Nat.le_refl _, Lib.hid rfl, k1, k2, k3, w0b, w0t⟩
  case round =>
    obtain ⟨i, a, b, c, d, r, rfl, rfl, hi, hrs, HK, y1, y2, y3, hb, hz⟩ := hrel
    clear k1 k2 k3 w0b w0t
    rcases (show i = 0 ∨ i = 1 ∨ i = 2 ∨ i = 3 ∨ i = 4 by omega) with rfl | rfl | rfl | rfl | rfl
    · have qA0 := fun w => after_p r ⟨#[108, 101, 118, 101, 108, 32]⟩ (by omega) w
      unfold aftV at qA0
      have hK : rform r.data.toList = rform s.data.toList := HK.out
      rw [rform_rf] at hK
      have wc : wr.cell? ⟨H + 1, 0, none⟩ = some (.string ⟨#[108, 101, 118, 101, 108, 32]⟩) := y2.cell 0
      rw [show (⟨#[108, 101, 118, 101, 108, 32]⟩ : ByteArray).data.toList = pLv from rfl] at qA0
      cases ha : aft pLv r.data.toList with
      | none =>
        rw [ha] at qA0
        dsimp only at qA0
        rw [rpart_none1 ha] at hK
        dsimp only at hK
        have HRP := Lib.hid (show rparse s.data.toList = (prm0, 3) by unfold rparse; rw [← hK])
        have u0 : wr.cell? ⟨H, 0, none⟩ = some (.int .i64 0) := y1.cell 0
        have v0 := y1.frozen 0
        have u1 : wr.cell? ⟨H, 1, none⟩ = some (.int .i64 0) := y1.cell 1
        have v1 := y1.frozen 1
        have u2 : wr.cell? ⟨H, 2, none⟩ = some (.int .i64 0) := y1.cell 2
        have v2 := y1.frozen 2
        have u3 : wr.cell? ⟨H, 3, none⟩ = some (.int .i64 0) := y1.cell 3
        have v3 := y1.frozen 3
        have u4 : wr.cell? ⟨H, 4, none⟩ = some (.bool false) := y1.cell 4
        have v4 := y1.frozen 4
        have u5 : wr.cell? ⟨H, 5, none⟩ = some (.bool false) := y1.cell 5
        have v5 := y1.frozen 5
        have qA := qA0
        clear hK HK ha qA0
        go_wp2_with ((go_at_call 82; refine (qA _).mono ?_; rintro en wa ⟨rfl, rfl⟩))
        obtain ⟨Y, hY⟩ : ∃ Y, ((((((wa.setCell ⟨H, 0, none⟩ (.int .i64 0)).setCell ⟨H, 1, none⟩ (.int .i64 0)).setCell ⟨H, 2, none⟩ (.int .i64 0)).setCell ⟨H, 3, none⟩ (.int .i64 0)).setCell ⟨H, 4, none⟩ (.bool false)).setCell ⟨H, 5, none⟩ (.bool false)) = Y := ⟨_, rfl⟩
        have hK : Blk Y H 58 (pcells prm0) := by rw [← hY]; exact blk_put y1 prm0
        have hbY : Below H w Y := by rw [← hY]; exact (Below.setCell (Below.setCell (Below.setCell (Below.setCell (Below.setCell (Below.setCell hb (by dsimp only; omega) _) (by dsimp only; omega) _) (by dsimp only; omega) _) (by dsimp only; omega) _) (by dsimp only; omega) _) (by dsimp only; omega) _)
        rw [hY]
        clear hY
        have q0 : Y.cell? ⟨H, 0, none⟩ = some (.int .i64 0) := hK.cell 0
        have q1 : Y.cell? ⟨H, 1, none⟩ = some (.int .i64 0) := hK.cell 1
        have q2 : Y.cell? ⟨H, 2, none⟩ = some (.int .i64 0) := hK.cell 2
        have q3 : Y.cell? ⟨H, 3, none⟩ = some (.int .i64 0) := hK.cell 3
        have q4 : Y.cell? ⟨H, 4, none⟩ = some (.bool false) := hK.cell 4
        have q5 : Y.cell? ⟨H, 5, none⟩ = some (.bool false) := hK.cell 5
        rw [HRP.out]
        exact bodyPost_ret (v := .tuple #[.agg #[.int .i64 0, .int .i64 0, .int .i64 0, .int .i64 0, .bool false, .bool false], .int .i64 3]) (by simp [results, Tryd.results40, go_sem, q0, q1, q2, q3, q4, q5]) rfl ⟨rfl, by first | exact hbY | (rw [hH]; exact hbY)⟩
      | some t =>
        rw [ha] at qA0
        dsimp only at qA0
        rw [rpart_some1 ha] at hK
        have hle := aft_le ha
        obtain ⟨T, hT⟩ : ∃ T : ByteArray, (⟨t.toArray⟩ : ByteArray) = T := ⟨_, rfl⟩
        have hT2 : T.data.toList = t := by rw [← hT]
        rw [hT] at qA0
        have hTs : T.size ≤ s.size := by
          have h1 : T.size = t.length := by rw [← hT2]; rfl
          have h2 : r.data.toList.length = r.size := rfl
          omega
        have qN := fun w => number_p T (by omega) w
        have qA := qA0
        have HT := Lib.hid hT2
        have HKK := Lib.hid hK
        have ou0 : wr.cell? ⟨H, 0, none⟩ = some (.int .i64 0) := y1.cell 0
        have ov0 := y1.frozen 0
        have ou1 : wr.cell? ⟨H, 1, none⟩ = some (.int .i64 0) := y1.cell 1
        have ov1 := y1.frozen 1
        have ou2 : wr.cell? ⟨H, 2, none⟩ = some (.int .i64 0) := y1.cell 2
        have ov2 := y1.frozen 2
        have ou3 : wr.cell? ⟨H, 3, none⟩ = some (.int .i64 0) := y1.cell 3
        have ov3 := y1.frozen 3
        have ou4 : wr.cell? ⟨H, 4, none⟩ = some (.bool false) := y1.cell 4
        have ov4 := y1.frozen 4
        have ou5 : wr.cell? ⟨H, 5, none⟩ = some (.bool false) := y1.cell 5
        have ov5 := y1.frozen 5
        have z0 : wr.cell? ⟨H + 2, 0, none⟩ = some (.int .i64 (a : Int)) := y3.cell 0
        have zf := y3.frozen 0
        clear hK HK ha qA0 hT hT2 hle
        go_upto_if 38 with (first | (go_at_call 82; refine (qA _).mono ?_; rintro en wa ⟨rfl, rfl⟩) | (go_at_call 83; refine (qN _).mono ?_; rintro en wn ⟨nn, rr, ok, rfl, hbn, hcase⟩; have hsn := hbn.size))
        have y1n := y1.later hbn
        have y2n := y2.later hbn
        have y3n := y3.later hbn
        have u0 : wn.cell? ⟨H, 0, none⟩ = some (.int .i64 0) := y1n.cell 0
        have v0 := y1n.frozen 0
        have u1 : wn.cell? ⟨H, 1, none⟩ = some (.int .i64 0) := y1n.cell 1
        have v1 := y1n.frozen 1
        have u2 : wn.cell? ⟨H, 2, none⟩ = some (.int .i64 0) := y1n.cell 2
        have v2 := y1n.frozen 2
        have u3 : wn.cell? ⟨H, 3, none⟩ = some (.int .i64 0) := y1n.cell 3
        have v3 := y1n.frozen 3
        have u4 : wn.cell? ⟨H, 4, none⟩ = some (.bool false) := y1n.cell 4
        have v4 := y1n.frozen 4
        have u5 : wn.cell? ⟨H, 5, none⟩ = some (.bool false) := y1n.cell 5
        have v5 := y1n.frozen 5
        have z3 : wn.cell? ⟨H + 2, 0, none⟩ = some (.int .i64 (a : Int)) := y3n.cell 0
        have z4 := y3n.frozen 0
        have hb2 : Below H w wn := hb.trans (hbn.mono (by omega))
        rcases hcase with ⟨rfl, hnone⟩ | ⟨rfl, m, rfl, hm9, hsome⟩
        · have hK2 := HKK.out
          rw [← HT.out, hnone] at hK2
          dsimp only at hK2
          have HRP := Lib.hid (show rparse s.data.toList = (prm0, 3) by unfold rparse; rw [← hK2])
          clear hnone hK2
          go_wp2
          obtain ⟨Y, hY⟩ : ∃ Y, ((((((wn.setCell ⟨H, 0, none⟩ (.int .i64 0)).setCell ⟨H, 1, none⟩ (.int .i64 0)).setCell ⟨H, 2, none⟩ (.int .i64 0)).setCell ⟨H, 3, none⟩ (.int .i64 0)).setCell ⟨H, 4, none⟩ (.bool false)).setCell ⟨H, 5, none⟩ (.bool false)) = Y := ⟨_, rfl⟩
          have hK : Blk Y H 58 (pcells prm0) := by rw [← hY]; exact blk_put y1n prm0
          have hbY : Below H w Y := by rw [← hY]; exact (Below.setCell (Below.setCell (Below.setCell (Below.setCell (Below.setCell (Below.setCell hb2 (by dsimp only; omega) _) (by dsimp only; omega) _) (by dsimp only; omega) _) (by dsimp only; omega) _) (by dsimp only; omega) _) (by dsimp only; omega) _)
          rw [hY]
          clear hY
          have q0 : Y.cell? ⟨H, 0, none⟩ = some (.int .i64 0) := hK.cell 0
          have q1 : Y.cell? ⟨H, 1, none⟩ = some (.int .i64 0) := hK.cell 1
          have q2 : Y.cell? ⟨H, 2, none⟩ = some (.int .i64 0) := hK.cell 2
          have q3 : Y.cell? ⟨H, 3, none⟩ = some (.int .i64 0) := hK.cell 3
          have q4 : Y.cell? ⟨H, 4, none⟩ = some (.bool false) := hK.cell 4
          have q5 : Y.cell? ⟨H, 5, none⟩ = some (.bool false) := hK.cell 5
          rw [HRP.out]
          exact bodyPost_ret (v := .tuple #[.agg #[.int .i64 0, .int .i64 0, .int .i64 0, .int .i64 0, .bool false, .bool false], .int .i64 3]) (by simp [results, Tryd.results40, go_sem, q0, q1, q2, q3, q4, q5]) rfl ⟨rfl, by first | exact hbY | (rw [hH]; exact hbY)⟩
        · have hK2 := HKK.out
          rw [← HT.out, hsome] at hK2
          dsimp only at hK2
          have hrl := rnum_len hsome
          have hrr : rr.size ≤ s.size := by
            have h1 : rr.data.toList.length = rr.size := rfl
            have h2 : T.data.toList.length = T.size := rfl
            omega
          have HK2 := Lib.hid hK2
          have hs2 := hbn.size
          clear hsome hK2 hrl
          go_wp2
          go_roundw
          case rel =>
            refine ⟨1, m, b, c, d, rr, rfl, by first | rfl | go_num, by omega, hrr, HK2, y1n.other (by dsimp only; omega) _, y2n.other (by dsimp only; omega) _, y3n.set 0 _, Below.setCell hb2 (by dsimp only; omega) _, by simp; omega⟩
          case measure => go_light; simp [intOf] <;> omega
    · have qA0 := fun w => after_p r ⟨#[32, 119, 105, 110, 100, 111, 119, 32]⟩ (by omega) w
      unfold aftV at qA0
      have hK : rf1 a r.data.toList = rform s.data.toList := HK.out
      unfold rf1 at hK
      have wc : wr.cell? ⟨H + 1, 1, none⟩ = some (.string ⟨#[32, 119, 105, 110, 100, 111, 119, 32]⟩) := y2.cell 1
      rw [show (⟨#[32, 119, 105, 110, 100, 111, 119, 32]⟩ : ByteArray).data.toList = pWi from rfl] at qA0
      cases ha : aft pWi r.data.toList with
      | none =>
        rw [ha] at qA0
        dsimp only at qA0
        rw [rpart_none1 ha] at hK
        dsimp only at hK
        have HRP := Lib.hid (show rparse s.data.toList = (prm0, 3) by unfold rparse; rw [← hK])
        have u0 : wr.cell? ⟨H, 0, none⟩ = some (.int .i64 0) := y1.cell 0
        have v0 := y1.frozen 0
        have u1 : wr.cell? ⟨H, 1, none⟩ = some (.int .i64 0) := y1.cell 1
        have v1 := y1.frozen 1
        have u2 : wr.cell? ⟨H, 2, none⟩ = some (.int .i64 0) := y1.cell 2
        have v2 := y1.frozen 2
        have u3 : wr.cell? ⟨H, 3, none⟩ = some (.int .i64 0) := y1.cell 3
        have v3 := y1.frozen 3
        have u4 : wr.cell? ⟨H, 4, none⟩ = some (.bool false) := y1.cell 4
        have v4 := y1.frozen 4
        have u5 : wr.cell? ⟨H, 5, none⟩ = some (.bool false) := y1.cell 5
        have v5 := y1.frozen 5
        have qA := qA0
        clear hK HK ha qA0
        go_wp2_with ((go_at_call 82; refine (qA _).mono ?_; rintro en wa ⟨rfl, rfl⟩))
        obtain ⟨Y, hY⟩ : ∃ Y, ((((((wa.setCell ⟨H, 0, none⟩ (.int .i64 0)).setCell ⟨H, 1, none⟩ (.int .i64 0)).setCell ⟨H, 2, none⟩ (.int .i64 0)).setCell ⟨H, 3, none⟩ (.int .i64 0)).setCell ⟨H, 4, none⟩ (.bool false)).setCell ⟨H, 5, none⟩ (.bool false)) = Y := ⟨_, rfl⟩
        have hK : Blk Y H 58 (pcells prm0) := by rw [← hY]; exact blk_put y1 prm0
        have hbY : Below H w Y := by rw [← hY]; exact (Below.setCell (Below.setCell (Below.setCell (Below.setCell (Below.setCell (Below.setCell hb (by dsimp only; omega) _) (by dsimp only; omega) _) (by dsimp only; omega) _) (by dsimp only; omega) _) (by dsimp only; omega) _) (by dsimp only; omega) _)
        rw [hY]
        clear hY
        have q0 : Y.cell? ⟨H, 0, none⟩ = some (.int .i64 0) := hK.cell 0
        have q1 : Y.cell? ⟨H, 1, none⟩ = some (.int .i64 0) := hK.cell 1
        have q2 : Y.cell? ⟨H, 2, none⟩ = some (.int .i64 0) := hK.cell 2
        have q3 : Y.cell? ⟨H, 3, none⟩ = some (.int .i64 0) := hK.cell 3
        have q4 : Y.cell? ⟨H, 4, none⟩ = some (.bool false) := hK.cell 4
        have q5 : Y.cell? ⟨H, 5, none⟩ = some (.bool false) := hK.cell 5
        rw [HRP.out]
        exact bodyPost_ret (v := .tuple #[.agg #[.int .i64 0, .int .i64 0, .int .i64 0, .int .i64 0, .bool false, .bool false], .int .i64 3]) (by simp [results, Tryd.results40, go_sem, q0, q1, q2, q3, q4, q5]) rfl ⟨rfl, by first | exact hbY | (rw [hH]; exact hbY)⟩
      | some t =>
        rw [ha] at qA0
        dsimp only at qA0
        rw [rpart_some1 ha] at hK
        have hle := aft_le ha
        obtain ⟨T, hT⟩ : ∃ T : ByteArray, (⟨t.toArray⟩ : ByteArray) = T := ⟨_, rfl⟩
        have hT2 : T.data.toList = t := by rw [← hT]
        rw [hT] at qA0
        have hTs : T.size ≤ s.size := by
          have h1 : T.size = t.length := by rw [← hT2]; rfl
          have h2 : r.data.toList.length = r.size := rfl
          omega
        have qN := fun w => number_p T (by omega) w
        have qA := qA0
        have HT := Lib.hid hT2
        have HKK := Lib.hid hK
        have ou0 : wr.cell? ⟨H, 0, none⟩ = some (.int .i64 0) := y1.cell 0
        have ov0 := y1.frozen 0
        have ou1 : wr.cell? ⟨H, 1, none⟩ = some (.int .i64 0) := y1.cell 1
        have ov1 := y1.frozen 1
        have ou2 : wr.cell? ⟨H, 2, none⟩ = some (.int .i64 0) := y1.cell 2
        have ov2 := y1.frozen 2
        have ou3 : wr.cell? ⟨H, 3, none⟩ = some (.int .i64 0) := y1.cell 3
        have ov3 := y1.frozen 3
        have ou4 : wr.cell? ⟨H, 4, none⟩ = some (.bool false) := y1.cell 4
        have ov4 := y1.frozen 4
        have ou5 : wr.cell? ⟨H, 5, none⟩ = some (.bool false) := y1.cell 5
        have ov5 := y1.frozen 5
        have z1 : wr.cell? ⟨H + 2, 1, none⟩ = some (.int .i64 (b : Int)) := y3.cell 1
        have zf := y3.frozen 1
        clear hK HK ha qA0 hT hT2 hle
        go_upto_if 38 with (first | (go_at_call 82; refine (qA _).mono ?_; rintro en wa ⟨rfl, rfl⟩) | (go_at_call 83; refine (qN _).mono ?_; rintro en wn ⟨nn, rr, ok, rfl, hbn, hcase⟩; have hsn := hbn.size))
        have y1n := y1.later hbn
        have y2n := y2.later hbn
        have y3n := y3.later hbn
        have u0 : wn.cell? ⟨H, 0, none⟩ = some (.int .i64 0) := y1n.cell 0
        have v0 := y1n.frozen 0
        have u1 : wn.cell? ⟨H, 1, none⟩ = some (.int .i64 0) := y1n.cell 1
        have v1 := y1n.frozen 1
        have u2 : wn.cell? ⟨H, 2, none⟩ = some (.int .i64 0) := y1n.cell 2
        have v2 := y1n.frozen 2
        have u3 : wn.cell? ⟨H, 3, none⟩ = some (.int .i64 0) := y1n.cell 3
        have v3 := y1n.frozen 3
        have u4 : wn.cell? ⟨H, 4, none⟩ = some (.bool false) := y1n.cell 4
        have v4 := y1n.frozen 4
        have u5 : wn.cell? ⟨H, 5, none⟩ = some (.bool false) := y1n.cell 5
        have v5 := y1n.frozen 5
        have z3 : wn.cell? ⟨H + 2, 1, none⟩ = some (.int .i64 (b : Int)) := y3n.cell 1
        have z4 := y3n.frozen 1
        have hb2 : Below H w wn := hb.trans (hbn.mono (by omega))
        rcases hcase with ⟨rfl, hnone⟩ | ⟨rfl, m, rfl, hm9, hsome⟩
        · have hK2 := HKK.out
          rw [← HT.out, hnone] at hK2
          dsimp only at hK2
          have HRP := Lib.hid (show rparse s.data.toList = (prm0, 3) by unfold rparse; rw [← hK2])
          clear hnone hK2
          go_wp2
          obtain ⟨Y, hY⟩ : ∃ Y, ((((((wn.setCell ⟨H, 0, none⟩ (.int .i64 0)).setCell ⟨H, 1, none⟩ (.int .i64 0)).setCell ⟨H, 2, none⟩ (.int .i64 0)).setCell ⟨H, 3, none⟩ (.int .i64 0)).setCell ⟨H, 4, none⟩ (.bool false)).setCell ⟨H, 5, none⟩ (.bool false)) = Y := ⟨_, rfl⟩
          have hK : Blk Y H 58 (pcells prm0) := by rw [← hY]; exact blk_put y1n prm0
          have hbY : Below H w Y := by rw [← hY]; exact (Below.setCell (Below.setCell (Below.setCell (Below.setCell (Below.setCell (Below.setCell hb2 (by dsimp only; omega) _) (by dsimp only; omega) _) (by dsimp only; omega) _) (by dsimp only; omega) _) (by dsimp only; omega) _) (by dsimp only; omega) _)
          rw [hY]
          clear hY
          have q0 : Y.cell? ⟨H, 0, none⟩ = some (.int .i64 0) := hK.cell 0
          have q1 : Y.cell? ⟨H, 1, none⟩ = some (.int .i64 0) := hK.cell 1
          have q2 : Y.cell? ⟨H, 2, none⟩ = some (.int .i64 0) := hK.cell 2
          have q3 : Y.cell? ⟨H, 3, none⟩ = some (.int .i64 0) := hK.cell 3
          have q4 : Y.cell? ⟨H, 4, none⟩ = some (.bool false) := hK.cell 4
          have q5 : Y.cell? ⟨H, 5, none⟩ = some (.bool false) := hK.cell 5
          rw [HRP.out]
          exact bodyPost_ret (v := .tuple #[.agg #[.int .i64 0, .int .i64 0, .int .i64 0, .int .i64 0, .bool false, .bool false], .int .i64 3]) (by simp [results, Tryd.results40, go_sem, q0, q1, q2, q3, q4, q5]) rfl ⟨rfl, by first | exact hbY | (rw [hH]; exact hbY)⟩
        · have hK2 := HKK.out
          rw [← HT.out, hsome] at hK2
          dsimp only at hK2
          have hrl := rnum_len hsome
          have hrr : rr.size ≤ s.size := by
            have h1 : rr.data.toList.length = rr.size := rfl
            have h2 : T.data.toList.length = T.size := rfl
            omega
          have HK2 := Lib.hid hK2
          have hs2 := hbn.size
          clear hsome hK2 hrl
          go_wp2
          go_roundw
          case rel =>
            refine ⟨2, a, m, c, d, rr, rfl, by first | rfl | go_num, by omega, hrr, HK2, y1n.other (by dsimp only; omega) _, y2n.other (by dsimp only; omega) _, y3n.set 1 _, Below.setCell hb2 (by dsimp only; omega) _, by simp; omega⟩
          case measure => go_light; simp [intOf] <;> omega
    · have qA0 := fun w => after_p r ⟨#[32, 106, 111, 98, 32]⟩ (by omega) w
      unfold aftV at qA0
      have hK : rf2 a b r.data.toList = rform s.data.toList := HK.out
      unfold rf2 at hK
      have wc : wr.cell? ⟨H + 1, 2, none⟩ = some (.string ⟨#[32, 106, 111, 98, 32]⟩) := y2.cell 2
      rw [show (⟨#[32, 106, 111, 98, 32]⟩ : ByteArray).data.toList = pJo from rfl] at qA0
      cases ha : aft pJo r.data.toList with
      | none =>
        rw [ha] at qA0
        dsimp only at qA0
        rw [rpart_none1 ha] at hK
        dsimp only at hK
        have HRP := Lib.hid (show rparse s.data.toList = (prm0, 3) by unfold rparse; rw [← hK])
        have u0 : wr.cell? ⟨H, 0, none⟩ = some (.int .i64 0) := y1.cell 0
        have v0 := y1.frozen 0
        have u1 : wr.cell? ⟨H, 1, none⟩ = some (.int .i64 0) := y1.cell 1
        have v1 := y1.frozen 1
        have u2 : wr.cell? ⟨H, 2, none⟩ = some (.int .i64 0) := y1.cell 2
        have v2 := y1.frozen 2
        have u3 : wr.cell? ⟨H, 3, none⟩ = some (.int .i64 0) := y1.cell 3
        have v3 := y1.frozen 3
        have u4 : wr.cell? ⟨H, 4, none⟩ = some (.bool false) := y1.cell 4
        have v4 := y1.frozen 4
        have u5 : wr.cell? ⟨H, 5, none⟩ = some (.bool false) := y1.cell 5
        have v5 := y1.frozen 5
        have qA := qA0
        clear hK HK ha qA0
        go_wp2_with ((go_at_call 82; refine (qA _).mono ?_; rintro en wa ⟨rfl, rfl⟩))
        obtain ⟨Y, hY⟩ : ∃ Y, ((((((wa.setCell ⟨H, 0, none⟩ (.int .i64 0)).setCell ⟨H, 1, none⟩ (.int .i64 0)).setCell ⟨H, 2, none⟩ (.int .i64 0)).setCell ⟨H, 3, none⟩ (.int .i64 0)).setCell ⟨H, 4, none⟩ (.bool false)).setCell ⟨H, 5, none⟩ (.bool false)) = Y := ⟨_, rfl⟩
        have hK : Blk Y H 58 (pcells prm0) := by rw [← hY]; exact blk_put y1 prm0
        have hbY : Below H w Y := by rw [← hY]; exact (Below.setCell (Below.setCell (Below.setCell (Below.setCell (Below.setCell (Below.setCell hb (by dsimp only; omega) _) (by dsimp only; omega) _) (by dsimp only; omega) _) (by dsimp only; omega) _) (by dsimp only; omega) _) (by dsimp only; omega) _)
        rw [hY]
        clear hY
        have q0 : Y.cell? ⟨H, 0, none⟩ = some (.int .i64 0) := hK.cell 0
        have q1 : Y.cell? ⟨H, 1, none⟩ = some (.int .i64 0) := hK.cell 1
        have q2 : Y.cell? ⟨H, 2, none⟩ = some (.int .i64 0) := hK.cell 2
        have q3 : Y.cell? ⟨H, 3, none⟩ = some (.int .i64 0) := hK.cell 3
        have q4 : Y.cell? ⟨H, 4, none⟩ = some (.bool false) := hK.cell 4
        have q5 : Y.cell? ⟨H, 5, none⟩ = some (.bool false) := hK.cell 5
        rw [HRP.out]
        exact bodyPost_ret (v := .tuple #[.agg #[.int .i64 0, .int .i64 0, .int .i64 0, .int .i64 0, .bool false, .bool false], .int .i64 3]) (by simp [results, Tryd.results40, go_sem, q0, q1, q2, q3, q4, q5]) rfl ⟨rfl, by first | exact hbY | (rw [hH]; exact hbY)⟩
      | some t =>
        rw [ha] at qA0
        dsimp only at qA0
        rw [rpart_some1 ha] at hK
        have hle := aft_le ha
        obtain ⟨T, hT⟩ : ∃ T : ByteArray, (⟨t.toArray⟩ : ByteArray) = T := ⟨_, rfl⟩
        have hT2 : T.data.toList = t := by rw [← hT]
        rw [hT] at qA0
        have hTs : T.size ≤ s.size := by
          have h1 : T.size = t.length := by rw [← hT2]; rfl
          have h2 : r.data.toList.length = r.size := rfl
          omega
        have qN := fun w => number_p T (by omega) w
        have qA := qA0
        have HT := Lib.hid hT2
        have HKK := Lib.hid hK
        have ou0 : wr.cell? ⟨H, 0, none⟩ = some (.int .i64 0) := y1.cell 0
        have ov0 := y1.frozen 0
        have ou1 : wr.cell? ⟨H, 1, none⟩ = some (.int .i64 0) := y1.cell 1
        have ov1 := y1.frozen 1
        have ou2 : wr.cell? ⟨H, 2, none⟩ = some (.int .i64 0) := y1.cell 2
        have ov2 := y1.frozen 2
        have ou3 : wr.cell? ⟨H, 3, none⟩ = some (.int .i64 0) := y1.cell 3
        have ov3 := y1.frozen 3
        have ou4 : wr.cell? ⟨H, 4, none⟩ = some (.bool false) := y1.cell 4
        have ov4 := y1.frozen 4
        have ou5 : wr.cell? ⟨H, 5, none⟩ = some (.bool false) := y1.cell 5
        have ov5 := y1.frozen 5
        have z2 : wr.cell? ⟨H + 2, 2, none⟩ = some (.int .i64 (c : Int)) := y3.cell 2
        have zf := y3.frozen 2
        clear hK HK ha qA0 hT hT2 hle
        go_upto_if 38 with (first | (go_at_call 82; refine (qA _).mono ?_; rintro en wa ⟨rfl, rfl⟩) | (go_at_call 83; refine (qN _).mono ?_; rintro en wn ⟨nn, rr, ok, rfl, hbn, hcase⟩; have hsn := hbn.size))
        have y1n := y1.later hbn
        have y2n := y2.later hbn
        have y3n := y3.later hbn
        have u0 : wn.cell? ⟨H, 0, none⟩ = some (.int .i64 0) := y1n.cell 0
        have v0 := y1n.frozen 0
        have u1 : wn.cell? ⟨H, 1, none⟩ = some (.int .i64 0) := y1n.cell 1
        have v1 := y1n.frozen 1
        have u2 : wn.cell? ⟨H, 2, none⟩ = some (.int .i64 0) := y1n.cell 2
        have v2 := y1n.frozen 2
        have u3 : wn.cell? ⟨H, 3, none⟩ = some (.int .i64 0) := y1n.cell 3
        have v3 := y1n.frozen 3
        have u4 : wn.cell? ⟨H, 4, none⟩ = some (.bool false) := y1n.cell 4
        have v4 := y1n.frozen 4
        have u5 : wn.cell? ⟨H, 5, none⟩ = some (.bool false) := y1n.cell 5
        have v5 := y1n.frozen 5
        have z3 : wn.cell? ⟨H + 2, 2, none⟩ = some (.int .i64 (c : Int)) := y3n.cell 2
        have z4 := y3n.frozen 2
        have hb2 : Below H w wn := hb.trans (hbn.mono (by omega))
        rcases hcase with ⟨rfl, hnone⟩ | ⟨rfl, m, rfl, hm9, hsome⟩
        · have hK2 := HKK.out
          rw [← HT.out, hnone] at hK2
          dsimp only at hK2
          have HRP := Lib.hid (show rparse s.data.toList = (prm0, 3) by unfold rparse; rw [← hK2])
          clear hnone hK2
          go_wp2
          obtain ⟨Y, hY⟩ : ∃ Y, ((((((wn.setCell ⟨H, 0, none⟩ (.int .i64 0)).setCell ⟨H, 1, none⟩ (.int .i64 0)).setCell ⟨H, 2, none⟩ (.int .i64 0)).setCell ⟨H, 3, none⟩ (.int .i64 0)).setCell ⟨H, 4, none⟩ (.bool false)).setCell ⟨H, 5, none⟩ (.bool false)) = Y := ⟨_, rfl⟩
          have hK : Blk Y H 58 (pcells prm0) := by rw [← hY]; exact blk_put y1n prm0
          have hbY : Below H w Y := by rw [← hY]; exact (Below.setCell (Below.setCell (Below.setCell (Below.setCell (Below.setCell (Below.setCell hb2 (by dsimp only; omega) _) (by dsimp only; omega) _) (by dsimp only; omega) _) (by dsimp only; omega) _) (by dsimp only; omega) _) (by dsimp only; omega) _)
          rw [hY]
          clear hY
          have q0 : Y.cell? ⟨H, 0, none⟩ = some (.int .i64 0) := hK.cell 0
          have q1 : Y.cell? ⟨H, 1, none⟩ = some (.int .i64 0) := hK.cell 1
          have q2 : Y.cell? ⟨H, 2, none⟩ = some (.int .i64 0) := hK.cell 2
          have q3 : Y.cell? ⟨H, 3, none⟩ = some (.int .i64 0) := hK.cell 3
          have q4 : Y.cell? ⟨H, 4, none⟩ = some (.bool false) := hK.cell 4
          have q5 : Y.cell? ⟨H, 5, none⟩ = some (.bool false) := hK.cell 5
          rw [HRP.out]
          exact bodyPost_ret (v := .tuple #[.agg #[.int .i64 0, .int .i64 0, .int .i64 0, .int .i64 0, .bool false, .bool false], .int .i64 3]) (by simp [results, Tryd.results40, go_sem, q0, q1, q2, q3, q4, q5]) rfl ⟨rfl, by first | exact hbY | (rw [hH]; exact hbY)⟩
        · have hK2 := HKK.out
          rw [← HT.out, hsome] at hK2
          dsimp only at hK2
          have hrl := rnum_len hsome
          have hrr : rr.size ≤ s.size := by
            have h1 : rr.data.toList.length = rr.size := rfl
            have h2 : T.data.toList.length = T.size := rfl
            omega
          have HK2 := Lib.hid hK2
          have hs2 := hbn.size
          clear hsome hK2 hrl
          go_wp2
          go_roundw
          case rel =>
            refine ⟨3, a, b, m, d, rr, rfl, by first | rfl | go_num, by omega, hrr, HK2, y1n.other (by dsimp only; omega) _, y2n.other (by dsimp only; omega) _, y3n.set 2 _, Below.setCell hb2 (by dsimp only; omega) _, by simp; omega⟩
          case measure => go_light; simp [intOf] <;> omega
    · have qA0 := fun w => after_p r ⟨#[32, 111, 118, 101, 114, 108, 97, 112, 32]⟩ (by omega) w
      unfold aftV at qA0
      have hK : rf3 a b c r.data.toList = rform s.data.toList := HK.out
      unfold rf3 at hK
      have wc : wr.cell? ⟨H + 1, 3, none⟩ = some (.string ⟨#[32, 111, 118, 101, 114, 108, 97, 112, 32]⟩) := y2.cell 3
      rw [show (⟨#[32, 111, 118, 101, 114, 108, 97, 112, 32]⟩ : ByteArray).data.toList = pOv from rfl] at qA0
      cases ha : aft pOv r.data.toList with
      | none =>
        rw [ha] at qA0
        dsimp only at qA0
        rw [rpart_none1 ha] at hK
        dsimp only at hK
        have HRP := Lib.hid (show rparse s.data.toList = (prm0, 3) by unfold rparse; rw [← hK])
        have u0 : wr.cell? ⟨H, 0, none⟩ = some (.int .i64 0) := y1.cell 0
        have v0 := y1.frozen 0
        have u1 : wr.cell? ⟨H, 1, none⟩ = some (.int .i64 0) := y1.cell 1
        have v1 := y1.frozen 1
        have u2 : wr.cell? ⟨H, 2, none⟩ = some (.int .i64 0) := y1.cell 2
        have v2 := y1.frozen 2
        have u3 : wr.cell? ⟨H, 3, none⟩ = some (.int .i64 0) := y1.cell 3
        have v3 := y1.frozen 3
        have u4 : wr.cell? ⟨H, 4, none⟩ = some (.bool false) := y1.cell 4
        have v4 := y1.frozen 4
        have u5 : wr.cell? ⟨H, 5, none⟩ = some (.bool false) := y1.cell 5
        have v5 := y1.frozen 5
        have qA := qA0
        clear hK HK ha qA0
        go_wp2_with ((go_at_call 82; refine (qA _).mono ?_; rintro en wa ⟨rfl, rfl⟩))
        obtain ⟨Y, hY⟩ : ∃ Y, ((((((wa.setCell ⟨H, 0, none⟩ (.int .i64 0)).setCell ⟨H, 1, none⟩ (.int .i64 0)).setCell ⟨H, 2, none⟩ (.int .i64 0)).setCell ⟨H, 3, none⟩ (.int .i64 0)).setCell ⟨H, 4, none⟩ (.bool false)).setCell ⟨H, 5, none⟩ (.bool false)) = Y := ⟨_, rfl⟩
        have hK : Blk Y H 58 (pcells prm0) := by rw [← hY]; exact blk_put y1 prm0
        have hbY : Below H w Y := by rw [← hY]; exact (Below.setCell (Below.setCell (Below.setCell (Below.setCell (Below.setCell (Below.setCell hb (by dsimp only; omega) _) (by dsimp only; omega) _) (by dsimp only; omega) _) (by dsimp only; omega) _) (by dsimp only; omega) _) (by dsimp only; omega) _)
        rw [hY]
        clear hY
        have q0 : Y.cell? ⟨H, 0, none⟩ = some (.int .i64 0) := hK.cell 0
        have q1 : Y.cell? ⟨H, 1, none⟩ = some (.int .i64 0) := hK.cell 1
        have q2 : Y.cell? ⟨H, 2, none⟩ = some (.int .i64 0) := hK.cell 2
        have q3 : Y.cell? ⟨H, 3, none⟩ = some (.int .i64 0) := hK.cell 3
        have q4 : Y.cell? ⟨H, 4, none⟩ = some (.bool false) := hK.cell 4
        have q5 : Y.cell? ⟨H, 5, none⟩ = some (.bool false) := hK.cell 5
        rw [HRP.out]
        exact bodyPost_ret (v := .tuple #[.agg #[.int .i64 0, .int .i64 0, .int .i64 0, .int .i64 0, .bool false, .bool false], .int .i64 3]) (by simp [results, Tryd.results40, go_sem, q0, q1, q2, q3, q4, q5]) rfl ⟨rfl, by first | exact hbY | (rw [hH]; exact hbY)⟩
      | some t =>
        rw [ha] at qA0
        dsimp only at qA0
        rw [rpart_some1 ha] at hK
        have hle := aft_le ha
        obtain ⟨T, hT⟩ : ∃ T : ByteArray, (⟨t.toArray⟩ : ByteArray) = T := ⟨_, rfl⟩
        have hT2 : T.data.toList = t := by rw [← hT]
        rw [hT] at qA0
        have hTs : T.size ≤ s.size := by
          have h1 : T.size = t.length := by rw [← hT2]; rfl
          have h2 : r.data.toList.length = r.size := rfl
          omega
        have qN := fun w => number_p T (by omega) w
        have qA := qA0
        have HT := Lib.hid hT2
        have HKK := Lib.hid hK
        have ou0 : wr.cell? ⟨H, 0, none⟩ = some (.int .i64 0) := y1.cell 0
        have ov0 := y1.frozen 0
        have ou1 : wr.cell? ⟨H, 1, none⟩ = some (.int .i64 0) := y1.cell 1
        have ov1 := y1.frozen 1
        have ou2 : wr.cell? ⟨H, 2, none⟩ = some (.int .i64 0) := y1.cell 2
        have ov2 := y1.frozen 2
        have ou3 : wr.cell? ⟨H, 3, none⟩ = some (.int .i64 0) := y1.cell 3
        have ov3 := y1.frozen 3
        have ou4 : wr.cell? ⟨H, 4, none⟩ = some (.bool false) := y1.cell 4
        have ov4 := y1.frozen 4
        have ou5 : wr.cell? ⟨H, 5, none⟩ = some (.bool false) := y1.cell 5
        have ov5 := y1.frozen 5
        have z3 : wr.cell? ⟨H + 2, 3, none⟩ = some (.int .i64 (d : Int)) := y3.cell 3
        have zf := y3.frozen 3
        clear hK HK ha qA0 hT hT2 hle
        go_upto_if 38 with (first | (go_at_call 82; refine (qA _).mono ?_; rintro en wa ⟨rfl, rfl⟩) | (go_at_call 83; refine (qN _).mono ?_; rintro en wn ⟨nn, rr, ok, rfl, hbn, hcase⟩; have hsn := hbn.size))
        have y1n := y1.later hbn
        have y2n := y2.later hbn
        have y3n := y3.later hbn
        have u0 : wn.cell? ⟨H, 0, none⟩ = some (.int .i64 0) := y1n.cell 0
        have v0 := y1n.frozen 0
        have u1 : wn.cell? ⟨H, 1, none⟩ = some (.int .i64 0) := y1n.cell 1
        have v1 := y1n.frozen 1
        have u2 : wn.cell? ⟨H, 2, none⟩ = some (.int .i64 0) := y1n.cell 2
        have v2 := y1n.frozen 2
        have u3 : wn.cell? ⟨H, 3, none⟩ = some (.int .i64 0) := y1n.cell 3
        have v3 := y1n.frozen 3
        have u4 : wn.cell? ⟨H, 4, none⟩ = some (.bool false) := y1n.cell 4
        have v4 := y1n.frozen 4
        have u5 : wn.cell? ⟨H, 5, none⟩ = some (.bool false) := y1n.cell 5
        have v5 := y1n.frozen 5
        have z3 : wn.cell? ⟨H + 2, 3, none⟩ = some (.int .i64 (d : Int)) := y3n.cell 3
        have z4 := y3n.frozen 3
        have hb2 : Below H w wn := hb.trans (hbn.mono (by omega))
        rcases hcase with ⟨rfl, hnone⟩ | ⟨rfl, m, rfl, hm9, hsome⟩
        · have hK2 := HKK.out
          rw [← HT.out, hnone] at hK2
          dsimp only at hK2
          have HRP := Lib.hid (show rparse s.data.toList = (prm0, 3) by unfold rparse; rw [← hK2])
          clear hnone hK2
          go_wp2
          obtain ⟨Y, hY⟩ : ∃ Y, ((((((wn.setCell ⟨H, 0, none⟩ (.int .i64 0)).setCell ⟨H, 1, none⟩ (.int .i64 0)).setCell ⟨H, 2, none⟩ (.int .i64 0)).setCell ⟨H, 3, none⟩ (.int .i64 0)).setCell ⟨H, 4, none⟩ (.bool false)).setCell ⟨H, 5, none⟩ (.bool false)) = Y := ⟨_, rfl⟩
          have hK : Blk Y H 58 (pcells prm0) := by rw [← hY]; exact blk_put y1n prm0
          have hbY : Below H w Y := by rw [← hY]; exact (Below.setCell (Below.setCell (Below.setCell (Below.setCell (Below.setCell (Below.setCell hb2 (by dsimp only; omega) _) (by dsimp only; omega) _) (by dsimp only; omega) _) (by dsimp only; omega) _) (by dsimp only; omega) _) (by dsimp only; omega) _)
          rw [hY]
          clear hY
          have q0 : Y.cell? ⟨H, 0, none⟩ = some (.int .i64 0) := hK.cell 0
          have q1 : Y.cell? ⟨H, 1, none⟩ = some (.int .i64 0) := hK.cell 1
          have q2 : Y.cell? ⟨H, 2, none⟩ = some (.int .i64 0) := hK.cell 2
          have q3 : Y.cell? ⟨H, 3, none⟩ = some (.int .i64 0) := hK.cell 3
          have q4 : Y.cell? ⟨H, 4, none⟩ = some (.bool false) := hK.cell 4
          have q5 : Y.cell? ⟨H, 5, none⟩ = some (.bool false) := hK.cell 5
          rw [HRP.out]
          exact bodyPost_ret (v := .tuple #[.agg #[.int .i64 0, .int .i64 0, .int .i64 0, .int .i64 0, .bool false, .bool false], .int .i64 3]) (by simp [results, Tryd.results40, go_sem, q0, q1, q2, q3, q4, q5]) rfl ⟨rfl, by first | exact hbY | (rw [hH]; exact hbY)⟩
        · have hK2 := HKK.out
          rw [← HT.out, hsome] at hK2
          dsimp only at hK2
          have hrl := rnum_len hsome
          have hrr : rr.size ≤ s.size := by
            have h1 : rr.data.toList.length = rr.size := rfl
            have h2 : T.data.toList.length = T.size := rfl
            omega
          have HK2 := Lib.hid hK2
          have hs2 := hbn.size
          clear hsome hK2 hrl
          go_wp2
          go_roundw
          case rel =>
            refine ⟨4, a, b, c, m, rr, rfl, by first | rfl | go_num, by omega, hrr, HK2, y1n.other (by dsimp only; omega) _, y2n.other (by dsimp only; omega) _, y3n.set 3 _, Below.setCell hb2 (by dsimp only; omega) _, by simp; omega⟩
          case measure => go_light; simp [intOf] <;> omega
    · have hK : rf4 a b c d r.data.toList = rform s.data.toList := HK.out
      unfold rf4 at hK
      have qA1 := fun w => after_p r ⟨#[32, 115, 121, 110, 99]⟩ (by omega) w
      unfold aftV at qA1
      rw [show (⟨#[32, 115, 121, 110, 99]⟩ : ByteArray).data.toList = pSy from rfl] at qA1
      have n0 : wr.cell? ⟨H + 2, 0, none⟩ = some (.int .i64 (a : Int)) := y3.cell 0
      have n1 : wr.cell? ⟨H + 2, 1, none⟩ = some (.int .i64 (b : Int)) := y3.cell 1
      have n2 : wr.cell? ⟨H + 2, 2, none⟩ = some (.int .i64 (c : Int)) := y3.cell 2
      have n3 : wr.cell? ⟨H + 2, 3, none⟩ = some (.int .i64 (d : Int)) := y3.cell 3
      have hbs := hb.size
      have hrdl : r.data.toList.length = r.size := rfl
      unfold rsync at hK
      cases hsy : aft pSy r.data.toList with
      | none =>
        rw [hsy] at qA1 hK
        dsimp only at qA1 hK
        clear hsy
        have qA2 := fun w => after_p r ⟨#[32, 99, 104, 101, 99, 107]⟩ (by omega) w
        unfold aftV at qA2
        rw [show (⟨#[32, 99, 104, 101, 99, 107]⟩ : ByteArray).data.toList = pCh from rfl] at qA2
        unfold rcheck at hK
        have hr1l : r.data.toList.length = r.size := rfl
        cases hc : aft pCh r.data.toList with
        | none =>
          rw [hc] at qA2 hK
          dsimp only at qA2 hK
          obtain ⟨r2, hr2⟩ : ∃ x : ByteArray, r = x := ⟨_, rfl⟩
          clear hc hr1l
          subst hr2
          have qC := fun w => rpcheck_p (a : Int) (b : Int) (c : Int) (d : Int) false false w
          have y1B := y1.alloc (.cells #[.int .i64 (a : Int), .int .i64 (b : Int), .int .i64 (c : Int), .int .i64 (d : Int), .bool false, .bool false] 58)
          have bu0 : (wr.alloc (.cells #[.int .i64 (a : Int), .int .i64 (b : Int), .int .i64 (c : Int), .int .i64 (d : Int), .bool false, .bool false] 58)).cell? ⟨H, 0, none⟩ = some (.int .i64 0) := y1B.cell 0
          have bv0 := y1B.frozen 0
          have bu1 : (wr.alloc (.cells #[.int .i64 (a : Int), .int .i64 (b : Int), .int .i64 (c : Int), .int .i64 (d : Int), .bool false, .bool false] 58)).cell? ⟨H, 1, none⟩ = some (.int .i64 0) := y1B.cell 1
          have bv1 := y1B.frozen 1
          have bu2 : (wr.alloc (.cells #[.int .i64 (a : Int), .int .i64 (b : Int), .int .i64 (c : Int), .int .i64 (d : Int), .bool false, .bool false] 58)).cell? ⟨H, 2, none⟩ = some (.int .i64 0) := y1B.cell 2
          have bv2 := y1B.frozen 2
          have bu3 : (wr.alloc (.cells #[.int .i64 (a : Int), .int .i64 (b : Int), .int .i64 (c : Int), .int .i64 (d : Int), .bool false, .bool false] 58)).cell? ⟨H, 3, none⟩ = some (.int .i64 0) := y1B.cell 3
          have bv3 := y1B.frozen 3
          have bu4 : (wr.alloc (.cells #[.int .i64 (a : Int), .int .i64 (b : Int), .int .i64 (c : Int), .int .i64 (d : Int), .bool false, .bool false] 58)).cell? ⟨H, 4, none⟩ = some (.bool false) := y1B.cell 4
          have bv4 := y1B.frozen 4
          have bu5 : (wr.alloc (.cells #[.int .i64 (a : Int), .int .i64 (b : Int), .int .i64 (c : Int), .int .i64 (d : Int), .bool false, .bool false] 58)).cell? ⟨H, 5, none⟩ = some (.bool false) := y1B.cell 5
          have bv5 := y1B.frozen 5
          by_cases he : r.toList = []
          · have te : r.toList.isEmpty = true := by rw [he]; rfl
            have tb : (r.toList == []) = true := by rw [he]; rfl
            rw [if_pos (by rw [← ByteArray.toList_eq]; exact he)] at hK
            by_cases hok : okP ⟨(a : Int), (b : Int), (c : Int), (d : Int), false, false⟩ = true
            · have hpk : pchk (a : Int) (b : Int) (c : Int) (d : Int) = 0 := by
                unfold pchk
                rw [if_pos]
                unfold okP at hok
                exact of_decide_eq_true hok
              have HRP := Lib.hid (show rparse s.data.toList = (⟨(a : Int), (b : Int), (c : Int), (d : Int), false, false⟩, 0) by unfold rparse; rw [← hK]; dsimp only; rw [if_pos hok])
              rw [hpk] at qC
              clear hok hpk hK HK hrdl
              go_wp2_with (first | (go_at_call 82; (with_reducible refine (qA1 _).mono ?_); rintro en wa ⟨rfl, rfl⟩) | (go_at_call 82; (with_reducible refine (qA2 _).mono ?_); rintro en wa ⟨rfl, rfl⟩) | (go_at_call 56; refine (qC _).mono ?_; rintro en wC ⟨rfl, hbC⟩; have hsC := hbC.size; (simp at hsC); have p0 : wC.cell? ⟨wr.heap.size, 0, none⟩ = some (.int .i64 (a : Int)) := (hbC.cell (p := ⟨wr.heap.size, 0, none⟩) (by simp)).trans (by simp [go_sem]); have p1 : wC.cell? ⟨wr.heap.size, 1, none⟩ = some (.int .i64 (b : Int)) := (hbC.cell (p := ⟨wr.heap.size, 1, none⟩) (by simp)).trans (by simp [go_sem]); have p2 : wC.cell? ⟨wr.heap.size, 2, none⟩ = some (.int .i64 (c : Int)) := (hbC.cell (p := ⟨wr.heap.size, 2, none⟩) (by simp)).trans (by simp [go_sem]); have p3 : wC.cell? ⟨wr.heap.size, 3, none⟩ = some (.int .i64 (d : Int)) := (hbC.cell (p := ⟨wr.heap.size, 3, none⟩) (by simp)).trans (by simp [go_sem]); have p4 : wC.cell? ⟨wr.heap.size, 4, none⟩ = some (.bool false) := (hbC.cell (p := ⟨wr.heap.size, 4, none⟩) (by simp)).trans (by simp [go_sem]); have p5 : wC.cell? ⟨wr.heap.size, 5, none⟩ = some (.bool false) := (hbC.cell (p := ⟨wr.heap.size, 5, none⟩) (by simp)).trans (by simp [go_sem]); have y1C := (y1.alloc (.cells #[.int .i64 (a : Int), .int .i64 (b : Int), .int .i64 (c : Int), .int .i64 (d : Int), .bool false, .bool false] 58)).later hbC; have u0 : wC.cell? ⟨H, 0, none⟩ = some (.int .i64 0) := y1C.cell 0; have v0 := y1C.frozen 0; have u1 : wC.cell? ⟨H, 1, none⟩ = some (.int .i64 0) := y1C.cell 1; have v1 := y1C.frozen 1; have u2 : wC.cell? ⟨H, 2, none⟩ = some (.int .i64 0) := y1C.cell 2; have v2 := y1C.frozen 2; have u3 : wC.cell? ⟨H, 3, none⟩ = some (.int .i64 0) := y1C.cell 3; have v3 := y1C.frozen 3; have u4 : wC.cell? ⟨H, 4, none⟩ = some (.bool false) := y1C.cell 4; have v4 := y1C.frozen 4; have u5 : wC.cell? ⟨H, 5, none⟩ = some (.bool false) := y1C.cell 5; have v5 := y1C.frozen 5))
              obtain ⟨Y, hY⟩ : ∃ Y, ((((((wC.setCell ⟨H, 0, none⟩ (.int .i64 (a : Int))).setCell ⟨H, 1, none⟩ (.int .i64 (b : Int))).setCell ⟨H, 2, none⟩ (.int .i64 (c : Int))).setCell ⟨H, 3, none⟩ (.int .i64 (d : Int))).setCell ⟨H, 4, none⟩ (.bool false)).setCell ⟨H, 5, none⟩ (.bool false)) = Y := ⟨_, rfl⟩
              have hK : Blk Y H 58 (pcells ⟨(a : Int), (b : Int), (c : Int), (d : Int), false, false⟩) := by rw [← hY]; exact blk_put y1C ⟨(a : Int), (b : Int), (c : Int), (d : Int), false, false⟩
              have hbY : Below H w Y := by rw [← hY]; exact (Below.setCell (Below.setCell (Below.setCell (Below.setCell (Below.setCell (Below.setCell ((hb.alloc (by omega) _).trans (hbC.mono (by simp; omega))) (by dsimp only; omega) _) (by dsimp only; omega) _) (by dsimp only; omega) _) (by dsimp only; omega) _) (by dsimp only; omega) _) (by dsimp only; omega) _)
              rw [hY]
              clear hY
              have q0 : Y.cell? ⟨H, 0, none⟩ = some (.int .i64 (a : Int)) := hK.cell 0
              have q1 : Y.cell? ⟨H, 1, none⟩ = some (.int .i64 (b : Int)) := hK.cell 1
              have q2 : Y.cell? ⟨H, 2, none⟩ = some (.int .i64 (c : Int)) := hK.cell 2
              have q3 : Y.cell? ⟨H, 3, none⟩ = some (.int .i64 (d : Int)) := hK.cell 3
              have q4 : Y.cell? ⟨H, 4, none⟩ = some (.bool false) := hK.cell 4
              have q5 : Y.cell? ⟨H, 5, none⟩ = some (.bool false) := hK.cell 5
              rw [HRP.out]
              exact bodyPost_ret (v := .tuple #[.agg #[.int .i64 (a : Int), .int .i64 (b : Int), .int .i64 (c : Int), .int .i64 (d : Int), .bool false, .bool false], .int .i64 0]) (by simp [results, Tryd.results40, go_sem, q0, q1, q2, q3, q4, q5]) rfl ⟨rfl, by first | exact hbY | (rw [hH]; exact hbY)⟩
            · have hpk : pchk (a : Int) (b : Int) (c : Int) (d : Int) = 2 := by
                unfold pchk
                rw [if_neg]
                intro h
                exact hok (by unfold okP; exact decide_eq_true h)
              have HRP := Lib.hid (show rparse s.data.toList = (prm0, 2) by unfold rparse; rw [← hK]; dsimp only; rw [if_neg hok])
              rw [hpk] at qC
              clear hok hpk hK HK hrdl
              go_wp2_with (first | (go_at_call 82; (with_reducible refine (qA1 _).mono ?_); rintro en wa ⟨rfl, rfl⟩) | (go_at_call 82; (with_reducible refine (qA2 _).mono ?_); rintro en wa ⟨rfl, rfl⟩) | (go_at_call 56; refine (qC _).mono ?_; rintro en wC ⟨rfl, hbC⟩; have hsC := hbC.size; (simp at hsC); have p0 : wC.cell? ⟨wr.heap.size, 0, none⟩ = some (.int .i64 (a : Int)) := (hbC.cell (p := ⟨wr.heap.size, 0, none⟩) (by simp)).trans (by simp [go_sem]); have p1 : wC.cell? ⟨wr.heap.size, 1, none⟩ = some (.int .i64 (b : Int)) := (hbC.cell (p := ⟨wr.heap.size, 1, none⟩) (by simp)).trans (by simp [go_sem]); have p2 : wC.cell? ⟨wr.heap.size, 2, none⟩ = some (.int .i64 (c : Int)) := (hbC.cell (p := ⟨wr.heap.size, 2, none⟩) (by simp)).trans (by simp [go_sem]); have p3 : wC.cell? ⟨wr.heap.size, 3, none⟩ = some (.int .i64 (d : Int)) := (hbC.cell (p := ⟨wr.heap.size, 3, none⟩) (by simp)).trans (by simp [go_sem]); have p4 : wC.cell? ⟨wr.heap.size, 4, none⟩ = some (.bool false) := (hbC.cell (p := ⟨wr.heap.size, 4, none⟩) (by simp)).trans (by simp [go_sem]); have p5 : wC.cell? ⟨wr.heap.size, 5, none⟩ = some (.bool false) := (hbC.cell (p := ⟨wr.heap.size, 5, none⟩) (by simp)).trans (by simp [go_sem]); have y1C := (y1.alloc (.cells #[.int .i64 (a : Int), .int .i64 (b : Int), .int .i64 (c : Int), .int .i64 (d : Int), .bool false, .bool false] 58)).later hbC; have u0 : wC.cell? ⟨H, 0, none⟩ = some (.int .i64 0) := y1C.cell 0; have v0 := y1C.frozen 0; have u1 : wC.cell? ⟨H, 1, none⟩ = some (.int .i64 0) := y1C.cell 1; have v1 := y1C.frozen 1; have u2 : wC.cell? ⟨H, 2, none⟩ = some (.int .i64 0) := y1C.cell 2; have v2 := y1C.frozen 2; have u3 : wC.cell? ⟨H, 3, none⟩ = some (.int .i64 0) := y1C.cell 3; have v3 := y1C.frozen 3; have u4 : wC.cell? ⟨H, 4, none⟩ = some (.bool false) := y1C.cell 4; have v4 := y1C.frozen 4; have u5 : wC.cell? ⟨H, 5, none⟩ = some (.bool false) := y1C.cell 5; have v5 := y1C.frozen 5))
              obtain ⟨Y, hY⟩ : ∃ Y, ((((((wC.setCell ⟨H, 0, none⟩ (.int .i64 0)).setCell ⟨H, 1, none⟩ (.int .i64 0)).setCell ⟨H, 2, none⟩ (.int .i64 0)).setCell ⟨H, 3, none⟩ (.int .i64 0)).setCell ⟨H, 4, none⟩ (.bool false)).setCell ⟨H, 5, none⟩ (.bool false)) = Y := ⟨_, rfl⟩
              have hK : Blk Y H 58 (pcells prm0) := by rw [← hY]; exact blk_put y1C prm0
              have hbY : Below H w Y := by rw [← hY]; exact (Below.setCell (Below.setCell (Below.setCell (Below.setCell (Below.setCell (Below.setCell ((hb.alloc (by omega) _).trans (hbC.mono (by simp; omega))) (by dsimp only; omega) _) (by dsimp only; omega) _) (by dsimp only; omega) _) (by dsimp only; omega) _) (by dsimp only; omega) _) (by dsimp only; omega) _)
              rw [hY]
              clear hY
              have q0 : Y.cell? ⟨H, 0, none⟩ = some (.int .i64 0) := hK.cell 0
              have q1 : Y.cell? ⟨H, 1, none⟩ = some (.int .i64 0) := hK.cell 1
              have q2 : Y.cell? ⟨H, 2, none⟩ = some (.int .i64 0) := hK.cell 2
              have q3 : Y.cell? ⟨H, 3, none⟩ = some (.int .i64 0) := hK.cell 3
              have q4 : Y.cell? ⟨H, 4, none⟩ = some (.bool false) := hK.cell 4
              have q5 : Y.cell? ⟨H, 5, none⟩ = some (.bool false) := hK.cell 5
              rw [HRP.out]
              exact bodyPost_ret (v := .tuple #[.agg #[.int .i64 0, .int .i64 0, .int .i64 0, .int .i64 0, .bool false, .bool false], .int .i64 2]) (by simp [results, Tryd.results40, go_sem, q0, q1, q2, q3, q4, q5]) rfl ⟨rfl, by first | exact hbY | (rw [hH]; exact hbY)⟩
          · have te : r.toList.isEmpty = false := by simpa using he
            have tb : (r.toList == []) = false := by simpa using he
            rw [if_neg (by rw [← ByteArray.toList_eq]; exact he)] at hK
            have HRP := Lib.hid (show rparse s.data.toList = (prm0, 3) by unfold rparse; rw [← hK])
            clear hK HK qC hrdl
            go_wp2_with (first | (go_at_call 82; (with_reducible refine (qA1 _).mono ?_); rintro en wa ⟨rfl, rfl⟩) | (go_at_call 82; (with_reducible refine (qA2 _).mono ?_); rintro en wa ⟨rfl, rfl⟩))
            obtain ⟨Y, hY⟩ : ∃ Y, (((((((wr.alloc (.cells #[.int .i64 (a : Int), .int .i64 (b : Int), .int .i64 (c : Int), .int .i64 (d : Int), .bool false, .bool false] 58)).setCell ⟨H, 0, none⟩ (.int .i64 0)).setCell ⟨H, 1, none⟩ (.int .i64 0)).setCell ⟨H, 2, none⟩ (.int .i64 0)).setCell ⟨H, 3, none⟩ (.int .i64 0)).setCell ⟨H, 4, none⟩ (.bool false)).setCell ⟨H, 5, none⟩ (.bool false)) = Y := ⟨_, rfl⟩
            have hK : Blk Y H 58 (pcells prm0) := by rw [← hY]; exact blk_put y1B prm0
            have hbY : Below H w Y := by rw [← hY]; exact (Below.setCell (Below.setCell (Below.setCell (Below.setCell (Below.setCell (Below.setCell (hb.alloc (by omega) _) (by dsimp only; omega) _) (by dsimp only; omega) _) (by dsimp only; omega) _) (by dsimp only; omega) _) (by dsimp only; omega) _) (by dsimp only; omega) _)
            rw [hY]
            clear hY
            have q0 : Y.cell? ⟨H, 0, none⟩ = some (.int .i64 0) := hK.cell 0
            have q1 : Y.cell? ⟨H, 1, none⟩ = some (.int .i64 0) := hK.cell 1
            have q2 : Y.cell? ⟨H, 2, none⟩ = some (.int .i64 0) := hK.cell 2
            have q3 : Y.cell? ⟨H, 3, none⟩ = some (.int .i64 0) := hK.cell 3
            have q4 : Y.cell? ⟨H, 4, none⟩ = some (.bool false) := hK.cell 4
            have q5 : Y.cell? ⟨H, 5, none⟩ = some (.bool false) := hK.cell 5
            rw [HRP.out]
            exact bodyPost_ret (v := .tuple #[.agg #[.int .i64 0, .int .i64 0, .int .i64 0, .int .i64 0, .bool false, .bool false], .int .i64 3]) (by simp [results, Tryd.results40, go_sem, q0, q1, q2, q3, q4, q5]) rfl ⟨rfl, by first | exact hbY | (rw [hH]; exact hbY)⟩
        | some t2 =>
          rw [hc] at qA2 hK
          dsimp only at qA2 hK
          obtain ⟨r2, hr2⟩ : ∃ x : ByteArray, (⟨t2.toArray⟩ : ByteArray) = x := ⟨_, rfl⟩
          have hr3 : t2 = r2.data.toList := by rw [← hr2]
          rw [hr3] at hK
          rw [hr2] at qA2
          clear hc hr1l hr2 hr3
          have qC := fun w => rpcheck_p (a : Int) (b : Int) (c : Int) (d : Int) false true w
          have y1B := y1.alloc (.cells #[.int .i64 (a : Int), .int .i64 (b : Int), .int .i64 (c : Int), .int .i64 (d : Int), .bool false, .bool true] 58)
          have bu0 : (wr.alloc (.cells #[.int .i64 (a : Int), .int .i64 (b : Int), .int .i64 (c : Int), .int .i64 (d : Int), .bool false, .bool true] 58)).cell? ⟨H, 0, none⟩ = some (.int .i64 0) := y1B.cell 0
          have bv0 := y1B.frozen 0
          have bu1 : (wr.alloc (.cells #[.int .i64 (a : Int), .int .i64 (b : Int), .int .i64 (c : Int), .int .i64 (d : Int), .bool false, .bool true] 58)).cell? ⟨H, 1, none⟩ = some (.int .i64 0) := y1B.cell 1
          have bv1 := y1B.frozen 1
          have bu2 : (wr.alloc (.cells #[.int .i64 (a : Int), .int .i64 (b : Int), .int .i64 (c : Int), .int .i64 (d : Int), .bool false, .bool true] 58)).cell? ⟨H, 2, none⟩ = some (.int .i64 0) := y1B.cell 2
          have bv2 := y1B.frozen 2
          have bu3 : (wr.alloc (.cells #[.int .i64 (a : Int), .int .i64 (b : Int), .int .i64 (c : Int), .int .i64 (d : Int), .bool false, .bool true] 58)).cell? ⟨H, 3, none⟩ = some (.int .i64 0) := y1B.cell 3
          have bv3 := y1B.frozen 3
          have bu4 : (wr.alloc (.cells #[.int .i64 (a : Int), .int .i64 (b : Int), .int .i64 (c : Int), .int .i64 (d : Int), .bool false, .bool true] 58)).cell? ⟨H, 4, none⟩ = some (.bool false) := y1B.cell 4
          have bv4 := y1B.frozen 4
          have bu5 : (wr.alloc (.cells #[.int .i64 (a : Int), .int .i64 (b : Int), .int .i64 (c : Int), .int .i64 (d : Int), .bool false, .bool true] 58)).cell? ⟨H, 5, none⟩ = some (.bool false) := y1B.cell 5
          have bv5 := y1B.frozen 5
          by_cases he : r2.toList = []
          · have te : r2.toList.isEmpty = true := by rw [he]; rfl
            have tb : (r2.toList == []) = true := by rw [he]; rfl
            rw [if_pos (by rw [← ByteArray.toList_eq]; exact he)] at hK
            by_cases hok : okP ⟨(a : Int), (b : Int), (c : Int), (d : Int), false, true⟩ = true
            · have hpk : pchk (a : Int) (b : Int) (c : Int) (d : Int) = 0 := by
                unfold pchk
                rw [if_pos]
                unfold okP at hok
                exact of_decide_eq_true hok
              have HRP := Lib.hid (show rparse s.data.toList = (⟨(a : Int), (b : Int), (c : Int), (d : Int), false, true⟩, 0) by unfold rparse; rw [← hK]; dsimp only; rw [if_pos hok])
              rw [hpk] at qC
              clear hok hpk hK HK hrdl
              go_wp2_with (first | (go_at_call 82; (with_reducible refine (qA1 _).mono ?_); rintro en wa ⟨rfl, rfl⟩) | (go_at_call 82; (with_reducible refine (qA2 _).mono ?_); rintro en wa ⟨rfl, rfl⟩) | (go_at_call 56; refine (qC _).mono ?_; rintro en wC ⟨rfl, hbC⟩; have hsC := hbC.size; (simp at hsC); have p0 : wC.cell? ⟨wr.heap.size, 0, none⟩ = some (.int .i64 (a : Int)) := (hbC.cell (p := ⟨wr.heap.size, 0, none⟩) (by simp)).trans (by simp [go_sem]); have p1 : wC.cell? ⟨wr.heap.size, 1, none⟩ = some (.int .i64 (b : Int)) := (hbC.cell (p := ⟨wr.heap.size, 1, none⟩) (by simp)).trans (by simp [go_sem]); have p2 : wC.cell? ⟨wr.heap.size, 2, none⟩ = some (.int .i64 (c : Int)) := (hbC.cell (p := ⟨wr.heap.size, 2, none⟩) (by simp)).trans (by simp [go_sem]); have p3 : wC.cell? ⟨wr.heap.size, 3, none⟩ = some (.int .i64 (d : Int)) := (hbC.cell (p := ⟨wr.heap.size, 3, none⟩) (by simp)).trans (by simp [go_sem]); have p4 : wC.cell? ⟨wr.heap.size, 4, none⟩ = some (.bool false) := (hbC.cell (p := ⟨wr.heap.size, 4, none⟩) (by simp)).trans (by simp [go_sem]); have p5 : wC.cell? ⟨wr.heap.size, 5, none⟩ = some (.bool true) := (hbC.cell (p := ⟨wr.heap.size, 5, none⟩) (by simp)).trans (by simp [go_sem]); have y1C := (y1.alloc (.cells #[.int .i64 (a : Int), .int .i64 (b : Int), .int .i64 (c : Int), .int .i64 (d : Int), .bool false, .bool true] 58)).later hbC; have u0 : wC.cell? ⟨H, 0, none⟩ = some (.int .i64 0) := y1C.cell 0; have v0 := y1C.frozen 0; have u1 : wC.cell? ⟨H, 1, none⟩ = some (.int .i64 0) := y1C.cell 1; have v1 := y1C.frozen 1; have u2 : wC.cell? ⟨H, 2, none⟩ = some (.int .i64 0) := y1C.cell 2; have v2 := y1C.frozen 2; have u3 : wC.cell? ⟨H, 3, none⟩ = some (.int .i64 0) := y1C.cell 3; have v3 := y1C.frozen 3; have u4 : wC.cell? ⟨H, 4, none⟩ = some (.bool false) := y1C.cell 4; have v4 := y1C.frozen 4; have u5 : wC.cell? ⟨H, 5, none⟩ = some (.bool false) := y1C.cell 5; have v5 := y1C.frozen 5))
              obtain ⟨Y, hY⟩ : ∃ Y, ((((((wC.setCell ⟨H, 0, none⟩ (.int .i64 (a : Int))).setCell ⟨H, 1, none⟩ (.int .i64 (b : Int))).setCell ⟨H, 2, none⟩ (.int .i64 (c : Int))).setCell ⟨H, 3, none⟩ (.int .i64 (d : Int))).setCell ⟨H, 4, none⟩ (.bool false)).setCell ⟨H, 5, none⟩ (.bool true)) = Y := ⟨_, rfl⟩
              have hK : Blk Y H 58 (pcells ⟨(a : Int), (b : Int), (c : Int), (d : Int), false, true⟩) := by rw [← hY]; exact blk_put y1C ⟨(a : Int), (b : Int), (c : Int), (d : Int), false, true⟩
              have hbY : Below H w Y := by rw [← hY]; exact (Below.setCell (Below.setCell (Below.setCell (Below.setCell (Below.setCell (Below.setCell ((hb.alloc (by omega) _).trans (hbC.mono (by simp; omega))) (by dsimp only; omega) _) (by dsimp only; omega) _) (by dsimp only; omega) _) (by dsimp only; omega) _) (by dsimp only; omega) _) (by dsimp only; omega) _)
              rw [hY]
              clear hY
              have q0 : Y.cell? ⟨H, 0, none⟩ = some (.int .i64 (a : Int)) := hK.cell 0
              have q1 : Y.cell? ⟨H, 1, none⟩ = some (.int .i64 (b : Int)) := hK.cell 1
              have q2 : Y.cell? ⟨H, 2, none⟩ = some (.int .i64 (c : Int)) := hK.cell 2
              have q3 : Y.cell? ⟨H, 3, none⟩ = some (.int .i64 (d : Int)) := hK.cell 3
              have q4 : Y.cell? ⟨H, 4, none⟩ = some (.bool false) := hK.cell 4
              have q5 : Y.cell? ⟨H, 5, none⟩ = some (.bool true) := hK.cell 5
              rw [HRP.out]
              exact bodyPost_ret (v := .tuple #[.agg #[.int .i64 (a : Int), .int .i64 (b : Int), .int .i64 (c : Int), .int .i64 (d : Int), .bool false, .bool true], .int .i64 0]) (by simp [results, Tryd.results40, go_sem, q0, q1, q2, q3, q4, q5]) rfl ⟨rfl, by first | exact hbY | (rw [hH]; exact hbY)⟩
            · have hpk : pchk (a : Int) (b : Int) (c : Int) (d : Int) = 2 := by
                unfold pchk
                rw [if_neg]
                intro h
                exact hok (by unfold okP; exact decide_eq_true h)
              have HRP := Lib.hid (show rparse s.data.toList = (prm0, 2) by unfold rparse; rw [← hK]; dsimp only; rw [if_neg hok])
              rw [hpk] at qC
              clear hok hpk hK HK hrdl
              go_wp2_with (first | (go_at_call 82; (with_reducible refine (qA1 _).mono ?_); rintro en wa ⟨rfl, rfl⟩) | (go_at_call 82; (with_reducible refine (qA2 _).mono ?_); rintro en wa ⟨rfl, rfl⟩) | (go_at_call 56; refine (qC _).mono ?_; rintro en wC ⟨rfl, hbC⟩; have hsC := hbC.size; (simp at hsC); have p0 : wC.cell? ⟨wr.heap.size, 0, none⟩ = some (.int .i64 (a : Int)) := (hbC.cell (p := ⟨wr.heap.size, 0, none⟩) (by simp)).trans (by simp [go_sem]); have p1 : wC.cell? ⟨wr.heap.size, 1, none⟩ = some (.int .i64 (b : Int)) := (hbC.cell (p := ⟨wr.heap.size, 1, none⟩) (by simp)).trans (by simp [go_sem]); have p2 : wC.cell? ⟨wr.heap.size, 2, none⟩ = some (.int .i64 (c : Int)) := (hbC.cell (p := ⟨wr.heap.size, 2, none⟩) (by simp)).trans (by simp [go_sem]); have p3 : wC.cell? ⟨wr.heap.size, 3, none⟩ = some (.int .i64 (d : Int)) := (hbC.cell (p := ⟨wr.heap.size, 3, none⟩) (by simp)).trans (by simp [go_sem]); have p4 : wC.cell? ⟨wr.heap.size, 4, none⟩ = some (.bool false) := (hbC.cell (p := ⟨wr.heap.size, 4, none⟩) (by simp)).trans (by simp [go_sem]); have p5 : wC.cell? ⟨wr.heap.size, 5, none⟩ = some (.bool true) := (hbC.cell (p := ⟨wr.heap.size, 5, none⟩) (by simp)).trans (by simp [go_sem]); have y1C := (y1.alloc (.cells #[.int .i64 (a : Int), .int .i64 (b : Int), .int .i64 (c : Int), .int .i64 (d : Int), .bool false, .bool true] 58)).later hbC; have u0 : wC.cell? ⟨H, 0, none⟩ = some (.int .i64 0) := y1C.cell 0; have v0 := y1C.frozen 0; have u1 : wC.cell? ⟨H, 1, none⟩ = some (.int .i64 0) := y1C.cell 1; have v1 := y1C.frozen 1; have u2 : wC.cell? ⟨H, 2, none⟩ = some (.int .i64 0) := y1C.cell 2; have v2 := y1C.frozen 2; have u3 : wC.cell? ⟨H, 3, none⟩ = some (.int .i64 0) := y1C.cell 3; have v3 := y1C.frozen 3; have u4 : wC.cell? ⟨H, 4, none⟩ = some (.bool false) := y1C.cell 4; have v4 := y1C.frozen 4; have u5 : wC.cell? ⟨H, 5, none⟩ = some (.bool false) := y1C.cell 5; have v5 := y1C.frozen 5))
              obtain ⟨Y, hY⟩ : ∃ Y, ((((((wC.setCell ⟨H, 0, none⟩ (.int .i64 0)).setCell ⟨H, 1, none⟩ (.int .i64 0)).setCell ⟨H, 2, none⟩ (.int .i64 0)).setCell ⟨H, 3, none⟩ (.int .i64 0)).setCell ⟨H, 4, none⟩ (.bool false)).setCell ⟨H, 5, none⟩ (.bool false)) = Y := ⟨_, rfl⟩
              have hK : Blk Y H 58 (pcells prm0) := by rw [← hY]; exact blk_put y1C prm0
              have hbY : Below H w Y := by rw [← hY]; exact (Below.setCell (Below.setCell (Below.setCell (Below.setCell (Below.setCell (Below.setCell ((hb.alloc (by omega) _).trans (hbC.mono (by simp; omega))) (by dsimp only; omega) _) (by dsimp only; omega) _) (by dsimp only; omega) _) (by dsimp only; omega) _) (by dsimp only; omega) _) (by dsimp only; omega) _)
              rw [hY]
              clear hY
              have q0 : Y.cell? ⟨H, 0, none⟩ = some (.int .i64 0) := hK.cell 0
              have q1 : Y.cell? ⟨H, 1, none⟩ = some (.int .i64 0) := hK.cell 1
              have q2 : Y.cell? ⟨H, 2, none⟩ = some (.int .i64 0) := hK.cell 2
              have q3 : Y.cell? ⟨H, 3, none⟩ = some (.int .i64 0) := hK.cell 3
              have q4 : Y.cell? ⟨H, 4, none⟩ = some (.bool false) := hK.cell 4
              have q5 : Y.cell? ⟨H, 5, none⟩ = some (.bool false) := hK.cell 5
              rw [HRP.out]
              exact bodyPost_ret (v := .tuple #[.agg #[.int .i64 0, .int .i64 0, .int .i64 0, .int .i64 0, .bool false, .bool false], .int .i64 2]) (by simp [results, Tryd.results40, go_sem, q0, q1, q2, q3, q4, q5]) rfl ⟨rfl, by first | exact hbY | (rw [hH]; exact hbY)⟩
          · have te : r2.toList.isEmpty = false := by simpa using he
            have tb : (r2.toList == []) = false := by simpa using he
            rw [if_neg (by rw [← ByteArray.toList_eq]; exact he)] at hK
            have HRP := Lib.hid (show rparse s.data.toList = (prm0, 3) by unfold rparse; rw [← hK])
            clear hK HK qC hrdl
            go_wp2_with (first | (go_at_call 82; (with_reducible refine (qA1 _).mono ?_); rintro en wa ⟨rfl, rfl⟩) | (go_at_call 82; (with_reducible refine (qA2 _).mono ?_); rintro en wa ⟨rfl, rfl⟩))
            obtain ⟨Y, hY⟩ : ∃ Y, (((((((wr.alloc (.cells #[.int .i64 (a : Int), .int .i64 (b : Int), .int .i64 (c : Int), .int .i64 (d : Int), .bool false, .bool true] 58)).setCell ⟨H, 0, none⟩ (.int .i64 0)).setCell ⟨H, 1, none⟩ (.int .i64 0)).setCell ⟨H, 2, none⟩ (.int .i64 0)).setCell ⟨H, 3, none⟩ (.int .i64 0)).setCell ⟨H, 4, none⟩ (.bool false)).setCell ⟨H, 5, none⟩ (.bool false)) = Y := ⟨_, rfl⟩
            have hK : Blk Y H 58 (pcells prm0) := by rw [← hY]; exact blk_put y1B prm0
            have hbY : Below H w Y := by rw [← hY]; exact (Below.setCell (Below.setCell (Below.setCell (Below.setCell (Below.setCell (Below.setCell (hb.alloc (by omega) _) (by dsimp only; omega) _) (by dsimp only; omega) _) (by dsimp only; omega) _) (by dsimp only; omega) _) (by dsimp only; omega) _) (by dsimp only; omega) _)
            rw [hY]
            clear hY
            have q0 : Y.cell? ⟨H, 0, none⟩ = some (.int .i64 0) := hK.cell 0
            have q1 : Y.cell? ⟨H, 1, none⟩ = some (.int .i64 0) := hK.cell 1
            have q2 : Y.cell? ⟨H, 2, none⟩ = some (.int .i64 0) := hK.cell 2
            have q3 : Y.cell? ⟨H, 3, none⟩ = some (.int .i64 0) := hK.cell 3
            have q4 : Y.cell? ⟨H, 4, none⟩ = some (.bool false) := hK.cell 4
            have q5 : Y.cell? ⟨H, 5, none⟩ = some (.bool false) := hK.cell 5
            rw [HRP.out]
            exact bodyPost_ret (v := .tuple #[.agg #[.int .i64 0, .int .i64 0, .int .i64 0, .int .i64 0, .bool false, .bool false], .int .i64 3]) (by simp [results, Tryd.results40, go_sem, q0, q1, q2, q3, q4, q5]) rfl ⟨rfl, by first | exact hbY | (rw [hH]; exact hbY)⟩
      | some t1 =>
        have hle := aft_le hsy
        rw [hsy] at qA1 hK
        dsimp only at qA1 hK
        obtain ⟨r1, hr1⟩ : ∃ x : ByteArray, (⟨t1.toArray⟩ : ByteArray) = x := ⟨_, rfl⟩
        have hr1b : t1 = r1.data.toList := by rw [← hr1]
        rw [hr1b] at hK hle
        rw [hr1] at qA1
        have hr1s : r1.size ≤ r.size := hle
        clear hsy hr1 hr1b hle
        have qA2 := fun w => after_p r1 ⟨#[32, 99, 104, 101, 99, 107]⟩ (by omega) w
        unfold aftV at qA2
        rw [show (⟨#[32, 99, 104, 101, 99, 107]⟩ : ByteArray).data.toList = pCh from rfl] at qA2
        unfold rcheck at hK
        have hr1l : r1.data.toList.length = r1.size := rfl
        cases hc : aft pCh r1.data.toList with
        | none =>
          rw [hc] at qA2 hK
          dsimp only at qA2 hK
          obtain ⟨r2, hr2⟩ : ∃ x : ByteArray, r1 = x := ⟨_, rfl⟩
          clear hc hr1l
          subst hr2
          have qC := fun w => rpcheck_p (a : Int) (b : Int) (c : Int) (d : Int) true false w
          have y1B := y1.alloc (.cells #[.int .i64 (a : Int), .int .i64 (b : Int), .int .i64 (c : Int), .int .i64 (d : Int), .bool true, .bool false] 58)
          have bu0 : (wr.alloc (.cells #[.int .i64 (a : Int), .int .i64 (b : Int), .int .i64 (c : Int), .int .i64 (d : Int), .bool true, .bool false] 58)).cell? ⟨H, 0, none⟩ = some (.int .i64 0) := y1B.cell 0
          have bv0 := y1B.frozen 0
          have bu1 : (wr.alloc (.cells #[.int .i64 (a : Int), .int .i64 (b : Int), .int .i64 (c : Int), .int .i64 (d : Int), .bool true, .bool false] 58)).cell? ⟨H, 1, none⟩ = some (.int .i64 0) := y1B.cell 1
          have bv1 := y1B.frozen 1
          have bu2 : (wr.alloc (.cells #[.int .i64 (a : Int), .int .i64 (b : Int), .int .i64 (c : Int), .int .i64 (d : Int), .bool true, .bool false] 58)).cell? ⟨H, 2, none⟩ = some (.int .i64 0) := y1B.cell 2
          have bv2 := y1B.frozen 2
          have bu3 : (wr.alloc (.cells #[.int .i64 (a : Int), .int .i64 (b : Int), .int .i64 (c : Int), .int .i64 (d : Int), .bool true, .bool false] 58)).cell? ⟨H, 3, none⟩ = some (.int .i64 0) := y1B.cell 3
          have bv3 := y1B.frozen 3
          have bu4 : (wr.alloc (.cells #[.int .i64 (a : Int), .int .i64 (b : Int), .int .i64 (c : Int), .int .i64 (d : Int), .bool true, .bool false] 58)).cell? ⟨H, 4, none⟩ = some (.bool false) := y1B.cell 4
          have bv4 := y1B.frozen 4
          have bu5 : (wr.alloc (.cells #[.int .i64 (a : Int), .int .i64 (b : Int), .int .i64 (c : Int), .int .i64 (d : Int), .bool true, .bool false] 58)).cell? ⟨H, 5, none⟩ = some (.bool false) := y1B.cell 5
          have bv5 := y1B.frozen 5
          by_cases he : r1.toList = []
          · have te : r1.toList.isEmpty = true := by rw [he]; rfl
            have tb : (r1.toList == []) = true := by rw [he]; rfl
            rw [if_pos (by rw [← ByteArray.toList_eq]; exact he)] at hK
            by_cases hok : okP ⟨(a : Int), (b : Int), (c : Int), (d : Int), true, false⟩ = true
            · have hpk : pchk (a : Int) (b : Int) (c : Int) (d : Int) = 0 := by
                unfold pchk
                rw [if_pos]
                unfold okP at hok
                exact of_decide_eq_true hok
              have HRP := Lib.hid (show rparse s.data.toList = (⟨(a : Int), (b : Int), (c : Int), (d : Int), true, false⟩, 0) by unfold rparse; rw [← hK]; dsimp only; rw [if_pos hok])
              rw [hpk] at qC
              clear hok hpk hK HK hrdl
              go_wp2_with (first | (go_at_call 82; (with_reducible refine (qA1 _).mono ?_); rintro en wa ⟨rfl, rfl⟩) | (go_at_call 82; (with_reducible refine (qA2 _).mono ?_); rintro en wa ⟨rfl, rfl⟩) | (go_at_call 56; refine (qC _).mono ?_; rintro en wC ⟨rfl, hbC⟩; have hsC := hbC.size; (simp at hsC); have p0 : wC.cell? ⟨wr.heap.size, 0, none⟩ = some (.int .i64 (a : Int)) := (hbC.cell (p := ⟨wr.heap.size, 0, none⟩) (by simp)).trans (by simp [go_sem]); have p1 : wC.cell? ⟨wr.heap.size, 1, none⟩ = some (.int .i64 (b : Int)) := (hbC.cell (p := ⟨wr.heap.size, 1, none⟩) (by simp)).trans (by simp [go_sem]); have p2 : wC.cell? ⟨wr.heap.size, 2, none⟩ = some (.int .i64 (c : Int)) := (hbC.cell (p := ⟨wr.heap.size, 2, none⟩) (by simp)).trans (by simp [go_sem]); have p3 : wC.cell? ⟨wr.heap.size, 3, none⟩ = some (.int .i64 (d : Int)) := (hbC.cell (p := ⟨wr.heap.size, 3, none⟩) (by simp)).trans (by simp [go_sem]); have p4 : wC.cell? ⟨wr.heap.size, 4, none⟩ = some (.bool true) := (hbC.cell (p := ⟨wr.heap.size, 4, none⟩) (by simp)).trans (by simp [go_sem]); have p5 : wC.cell? ⟨wr.heap.size, 5, none⟩ = some (.bool false) := (hbC.cell (p := ⟨wr.heap.size, 5, none⟩) (by simp)).trans (by simp [go_sem]); have y1C := (y1.alloc (.cells #[.int .i64 (a : Int), .int .i64 (b : Int), .int .i64 (c : Int), .int .i64 (d : Int), .bool true, .bool false] 58)).later hbC; have u0 : wC.cell? ⟨H, 0, none⟩ = some (.int .i64 0) := y1C.cell 0; have v0 := y1C.frozen 0; have u1 : wC.cell? ⟨H, 1, none⟩ = some (.int .i64 0) := y1C.cell 1; have v1 := y1C.frozen 1; have u2 : wC.cell? ⟨H, 2, none⟩ = some (.int .i64 0) := y1C.cell 2; have v2 := y1C.frozen 2; have u3 : wC.cell? ⟨H, 3, none⟩ = some (.int .i64 0) := y1C.cell 3; have v3 := y1C.frozen 3; have u4 : wC.cell? ⟨H, 4, none⟩ = some (.bool false) := y1C.cell 4; have v4 := y1C.frozen 4; have u5 : wC.cell? ⟨H, 5, none⟩ = some (.bool false) := y1C.cell 5; have v5 := y1C.frozen 5))
              obtain ⟨Y, hY⟩ : ∃ Y, ((((((wC.setCell ⟨H, 0, none⟩ (.int .i64 (a : Int))).setCell ⟨H, 1, none⟩ (.int .i64 (b : Int))).setCell ⟨H, 2, none⟩ (.int .i64 (c : Int))).setCell ⟨H, 3, none⟩ (.int .i64 (d : Int))).setCell ⟨H, 4, none⟩ (.bool true)).setCell ⟨H, 5, none⟩ (.bool false)) = Y := ⟨_, rfl⟩
              have hK : Blk Y H 58 (pcells ⟨(a : Int), (b : Int), (c : Int), (d : Int), true, false⟩) := by rw [← hY]; exact blk_put y1C ⟨(a : Int), (b : Int), (c : Int), (d : Int), true, false⟩
              have hbY : Below H w Y := by rw [← hY]; exact (Below.setCell (Below.setCell (Below.setCell (Below.setCell (Below.setCell (Below.setCell ((hb.alloc (by omega) _).trans (hbC.mono (by simp; omega))) (by dsimp only; omega) _) (by dsimp only; omega) _) (by dsimp only; omega) _) (by dsimp only; omega) _) (by dsimp only; omega) _) (by dsimp only; omega) _)
              rw [hY]
              clear hY
              have q0 : Y.cell? ⟨H, 0, none⟩ = some (.int .i64 (a : Int)) := hK.cell 0
              have q1 : Y.cell? ⟨H, 1, none⟩ = some (.int .i64 (b : Int)) := hK.cell 1
              have q2 : Y.cell? ⟨H, 2, none⟩ = some (.int .i64 (c : Int)) := hK.cell 2
              have q3 : Y.cell? ⟨H, 3, none⟩ = some (.int .i64 (d : Int)) := hK.cell 3
              have q4 : Y.cell? ⟨H, 4, none⟩ = some (.bool true) := hK.cell 4
              have q5 : Y.cell? ⟨H, 5, none⟩ = some (.bool false) := hK.cell 5
              rw [HRP.out]
              exact bodyPost_ret (v := .tuple #[.agg #[.int .i64 (a : Int), .int .i64 (b : Int), .int .i64 (c : Int), .int .i64 (d : Int), .bool true, .bool false], .int .i64 0]) (by simp [results, Tryd.results40, go_sem, q0, q1, q2, q3, q4, q5]) rfl ⟨rfl, by first | exact hbY | (rw [hH]; exact hbY)⟩
            · have hpk : pchk (a : Int) (b : Int) (c : Int) (d : Int) = 2 := by
                unfold pchk
                rw [if_neg]
                intro h
                exact hok (by unfold okP; exact decide_eq_true h)
              have HRP := Lib.hid (show rparse s.data.toList = (prm0, 2) by unfold rparse; rw [← hK]; dsimp only; rw [if_neg hok])
              rw [hpk] at qC
              clear hok hpk hK HK hrdl
              go_wp2_with (first | (go_at_call 82; (with_reducible refine (qA1 _).mono ?_); rintro en wa ⟨rfl, rfl⟩) | (go_at_call 82; (with_reducible refine (qA2 _).mono ?_); rintro en wa ⟨rfl, rfl⟩) | (go_at_call 56; refine (qC _).mono ?_; rintro en wC ⟨rfl, hbC⟩; have hsC := hbC.size; (simp at hsC); have p0 : wC.cell? ⟨wr.heap.size, 0, none⟩ = some (.int .i64 (a : Int)) := (hbC.cell (p := ⟨wr.heap.size, 0, none⟩) (by simp)).trans (by simp [go_sem]); have p1 : wC.cell? ⟨wr.heap.size, 1, none⟩ = some (.int .i64 (b : Int)) := (hbC.cell (p := ⟨wr.heap.size, 1, none⟩) (by simp)).trans (by simp [go_sem]); have p2 : wC.cell? ⟨wr.heap.size, 2, none⟩ = some (.int .i64 (c : Int)) := (hbC.cell (p := ⟨wr.heap.size, 2, none⟩) (by simp)).trans (by simp [go_sem]); have p3 : wC.cell? ⟨wr.heap.size, 3, none⟩ = some (.int .i64 (d : Int)) := (hbC.cell (p := ⟨wr.heap.size, 3, none⟩) (by simp)).trans (by simp [go_sem]); have p4 : wC.cell? ⟨wr.heap.size, 4, none⟩ = some (.bool true) := (hbC.cell (p := ⟨wr.heap.size, 4, none⟩) (by simp)).trans (by simp [go_sem]); have p5 : wC.cell? ⟨wr.heap.size, 5, none⟩ = some (.bool false) := (hbC.cell (p := ⟨wr.heap.size, 5, none⟩) (by simp)).trans (by simp [go_sem]); have y1C := (y1.alloc (.cells #[.int .i64 (a : Int), .int .i64 (b : Int), .int .i64 (c : Int), .int .i64 (d : Int), .bool true, .bool false] 58)).later hbC; have u0 : wC.cell? ⟨H, 0, none⟩ = some (.int .i64 0) := y1C.cell 0; have v0 := y1C.frozen 0; have u1 : wC.cell? ⟨H, 1, none⟩ = some (.int .i64 0) := y1C.cell 1; have v1 := y1C.frozen 1; have u2 : wC.cell? ⟨H, 2, none⟩ = some (.int .i64 0) := y1C.cell 2; have v2 := y1C.frozen 2; have u3 : wC.cell? ⟨H, 3, none⟩ = some (.int .i64 0) := y1C.cell 3; have v3 := y1C.frozen 3; have u4 : wC.cell? ⟨H, 4, none⟩ = some (.bool false) := y1C.cell 4; have v4 := y1C.frozen 4; have u5 : wC.cell? ⟨H, 5, none⟩ = some (.bool false) := y1C.cell 5; have v5 := y1C.frozen 5))
              obtain ⟨Y, hY⟩ : ∃ Y, ((((((wC.setCell ⟨H, 0, none⟩ (.int .i64 0)).setCell ⟨H, 1, none⟩ (.int .i64 0)).setCell ⟨H, 2, none⟩ (.int .i64 0)).setCell ⟨H, 3, none⟩ (.int .i64 0)).setCell ⟨H, 4, none⟩ (.bool false)).setCell ⟨H, 5, none⟩ (.bool false)) = Y := ⟨_, rfl⟩
              have hK : Blk Y H 58 (pcells prm0) := by rw [← hY]; exact blk_put y1C prm0
              have hbY : Below H w Y := by rw [← hY]; exact (Below.setCell (Below.setCell (Below.setCell (Below.setCell (Below.setCell (Below.setCell ((hb.alloc (by omega) _).trans (hbC.mono (by simp; omega))) (by dsimp only; omega) _) (by dsimp only; omega) _) (by dsimp only; omega) _) (by dsimp only; omega) _) (by dsimp only; omega) _) (by dsimp only; omega) _)
              rw [hY]
              clear hY
              have q0 : Y.cell? ⟨H, 0, none⟩ = some (.int .i64 0) := hK.cell 0
              have q1 : Y.cell? ⟨H, 1, none⟩ = some (.int .i64 0) := hK.cell 1
              have q2 : Y.cell? ⟨H, 2, none⟩ = some (.int .i64 0) := hK.cell 2
              have q3 : Y.cell? ⟨H, 3, none⟩ = some (.int .i64 0) := hK.cell 3
              have q4 : Y.cell? ⟨H, 4, none⟩ = some (.bool false) := hK.cell 4
              have q5 : Y.cell? ⟨H, 5, none⟩ = some (.bool false) := hK.cell 5
              rw [HRP.out]
              exact bodyPost_ret (v := .tuple #[.agg #[.int .i64 0, .int .i64 0, .int .i64 0, .int .i64 0, .bool false, .bool false], .int .i64 2]) (by simp [results, Tryd.results40, go_sem, q0, q1, q2, q3, q4, q5]) rfl ⟨rfl, by first | exact hbY | (rw [hH]; exact hbY)⟩
          · have te : r1.toList.isEmpty = false := by simpa using he
            have tb : (r1.toList == []) = false := by simpa using he
            rw [if_neg (by rw [← ByteArray.toList_eq]; exact he)] at hK
            have HRP := Lib.hid (show rparse s.data.toList = (prm0, 3) by unfold rparse; rw [← hK])
            clear hK HK qC hrdl
            go_wp2_with (first | (go_at_call 82; (with_reducible refine (qA1 _).mono ?_); rintro en wa ⟨rfl, rfl⟩) | (go_at_call 82; (with_reducible refine (qA2 _).mono ?_); rintro en wa ⟨rfl, rfl⟩))
            obtain ⟨Y, hY⟩ : ∃ Y, (((((((wr.alloc (.cells #[.int .i64 (a : Int), .int .i64 (b : Int), .int .i64 (c : Int), .int .i64 (d : Int), .bool true, .bool false] 58)).setCell ⟨H, 0, none⟩ (.int .i64 0)).setCell ⟨H, 1, none⟩ (.int .i64 0)).setCell ⟨H, 2, none⟩ (.int .i64 0)).setCell ⟨H, 3, none⟩ (.int .i64 0)).setCell ⟨H, 4, none⟩ (.bool false)).setCell ⟨H, 5, none⟩ (.bool false)) = Y := ⟨_, rfl⟩
            have hK : Blk Y H 58 (pcells prm0) := by rw [← hY]; exact blk_put y1B prm0
            have hbY : Below H w Y := by rw [← hY]; exact (Below.setCell (Below.setCell (Below.setCell (Below.setCell (Below.setCell (Below.setCell (hb.alloc (by omega) _) (by dsimp only; omega) _) (by dsimp only; omega) _) (by dsimp only; omega) _) (by dsimp only; omega) _) (by dsimp only; omega) _) (by dsimp only; omega) _)
            rw [hY]
            clear hY
            have q0 : Y.cell? ⟨H, 0, none⟩ = some (.int .i64 0) := hK.cell 0
            have q1 : Y.cell? ⟨H, 1, none⟩ = some (.int .i64 0) := hK.cell 1
            have q2 : Y.cell? ⟨H, 2, none⟩ = some (.int .i64 0) := hK.cell 2
            have q3 : Y.cell? ⟨H, 3, none⟩ = some (.int .i64 0) := hK.cell 3
            have q4 : Y.cell? ⟨H, 4, none⟩ = some (.bool false) := hK.cell 4
            have q5 : Y.cell? ⟨H, 5, none⟩ = some (.bool false) := hK.cell 5
            rw [HRP.out]
            exact bodyPost_ret (v := .tuple #[.agg #[.int .i64 0, .int .i64 0, .int .i64 0, .int .i64 0, .bool false, .bool false], .int .i64 3]) (by simp [results, Tryd.results40, go_sem, q0, q1, q2, q3, q4, q5]) rfl ⟨rfl, by first | exact hbY | (rw [hH]; exact hbY)⟩
        | some t2 =>
          rw [hc] at qA2 hK
          dsimp only at qA2 hK
          obtain ⟨r2, hr2⟩ : ∃ x : ByteArray, (⟨t2.toArray⟩ : ByteArray) = x := ⟨_, rfl⟩
          have hr3 : t2 = r2.data.toList := by rw [← hr2]
          rw [hr3] at hK
          rw [hr2] at qA2
          clear hc hr1l hr2 hr3
          have qC := fun w => rpcheck_p (a : Int) (b : Int) (c : Int) (d : Int) true true w
          have y1B := y1.alloc (.cells #[.int .i64 (a : Int), .int .i64 (b : Int), .int .i64 (c : Int), .int .i64 (d : Int), .bool true, .bool true] 58)
          have bu0 : (wr.alloc (.cells #[.int .i64 (a : Int), .int .i64 (b : Int), .int .i64 (c : Int), .int .i64 (d : Int), .bool true, .bool true] 58)).cell? ⟨H, 0, none⟩ = some (.int .i64 0) := y1B.cell 0
          have bv0 := y1B.frozen 0
          have bu1 : (wr.alloc (.cells #[.int .i64 (a : Int), .int .i64 (b : Int), .int .i64 (c : Int), .int .i64 (d : Int), .bool true, .bool true] 58)).cell? ⟨H, 1, none⟩ = some (.int .i64 0) := y1B.cell 1
          have bv1 := y1B.frozen 1
          have bu2 : (wr.alloc (.cells #[.int .i64 (a : Int), .int .i64 (b : Int), .int .i64 (c : Int), .int .i64 (d : Int), .bool true, .bool true] 58)).cell? ⟨H, 2, none⟩ = some (.int .i64 0) := y1B.cell 2
          have bv2 := y1B.frozen 2
          have bu3 : (wr.alloc (.cells #[.int .i64 (a : Int), .int .i64 (b : Int), .int .i64 (c : Int), .int .i64 (d : Int), .bool true, .bool true] 58)).cell? ⟨H, 3, none⟩ = some (.int .i64 0) := y1B.cell 3
          have bv3 := y1B.frozen 3
          have bu4 : (wr.alloc (.cells #[.int .i64 (a : Int), .int .i64 (b : Int), .int .i64 (c : Int), .int .i64 (d : Int), .bool true, .bool true] 58)).cell? ⟨H, 4, none⟩ = some (.bool false) := y1B.cell 4
          have bv4 := y1B.frozen 4
          have bu5 : (wr.alloc (.cells #[.int .i64 (a : Int), .int .i64 (b : Int), .int .i64 (c : Int), .int .i64 (d : Int), .bool true, .bool true] 58)).cell? ⟨H, 5, none⟩ = some (.bool false) := y1B.cell 5
          have bv5 := y1B.frozen 5
          by_cases he : r2.toList = []
          · have te : r2.toList.isEmpty = true := by rw [he]; rfl
            have tb : (r2.toList == []) = true := by rw [he]; rfl
            rw [if_pos (by rw [← ByteArray.toList_eq]; exact he)] at hK
            by_cases hok : okP ⟨(a : Int), (b : Int), (c : Int), (d : Int), true, true⟩ = true
            · have hpk : pchk (a : Int) (b : Int) (c : Int) (d : Int) = 0 := by
                unfold pchk
                rw [if_pos]
                unfold okP at hok
                exact of_decide_eq_true hok
              have HRP := Lib.hid (show rparse s.data.toList = (⟨(a : Int), (b : Int), (c : Int), (d : Int), true, true⟩, 0) by unfold rparse; rw [← hK]; dsimp only; rw [if_pos hok])
              rw [hpk] at qC
              clear hok hpk hK HK hrdl
              go_wp2_with (first | (go_at_call 82; (with_reducible refine (qA1 _).mono ?_); rintro en wa ⟨rfl, rfl⟩) | (go_at_call 82; (with_reducible refine (qA2 _).mono ?_); rintro en wa ⟨rfl, rfl⟩) | (go_at_call 56; refine (qC _).mono ?_; rintro en wC ⟨rfl, hbC⟩; have hsC := hbC.size; (simp at hsC); have p0 : wC.cell? ⟨wr.heap.size, 0, none⟩ = some (.int .i64 (a : Int)) := (hbC.cell (p := ⟨wr.heap.size, 0, none⟩) (by simp)).trans (by simp [go_sem]); have p1 : wC.cell? ⟨wr.heap.size, 1, none⟩ = some (.int .i64 (b : Int)) := (hbC.cell (p := ⟨wr.heap.size, 1, none⟩) (by simp)).trans (by simp [go_sem]); have p2 : wC.cell? ⟨wr.heap.size, 2, none⟩ = some (.int .i64 (c : Int)) := (hbC.cell (p := ⟨wr.heap.size, 2, none⟩) (by simp)).trans (by simp [go_sem]); have p3 : wC.cell? ⟨wr.heap.size, 3, none⟩ = some (.int .i64 (d : Int)) := (hbC.cell (p := ⟨wr.heap.size, 3, none⟩) (by simp)).trans (by simp [go_sem]); have p4 : wC.cell? ⟨wr.heap.size, 4, none⟩ = some (.bool true) := (hbC.cell (p := ⟨wr.heap.size, 4, none⟩) (by simp)).trans (by simp [go_sem]); have p5 : wC.cell? ⟨wr.heap.size, 5, none⟩ = some (.bool true) := (hbC.cell (p := ⟨wr.heap.size, 5, none⟩) (by simp)).trans (by simp [go_sem]); have y1C := (y1.alloc (.cells #[.int .i64 (a : Int), .int .i64 (b : Int), .int .i64 (c : Int), .int .i64 (d : Int), .bool true, .bool true] 58)).later hbC; have u0 : wC.cell? ⟨H, 0, none⟩ = some (.int .i64 0) := y1C.cell 0; have v0 := y1C.frozen 0; have u1 : wC.cell? ⟨H, 1, none⟩ = some (.int .i64 0) := y1C.cell 1; have v1 := y1C.frozen 1; have u2 : wC.cell? ⟨H, 2, none⟩ = some (.int .i64 0) := y1C.cell 2; have v2 := y1C.frozen 2; have u3 : wC.cell? ⟨H, 3, none⟩ = some (.int .i64 0) := y1C.cell 3; have v3 := y1C.frozen 3; have u4 : wC.cell? ⟨H, 4, none⟩ = some (.bool false) := y1C.cell 4; have v4 := y1C.frozen 4; have u5 : wC.cell? ⟨H, 5, none⟩ = some (.bool false) := y1C.cell 5; have v5 := y1C.frozen 5))
              obtain ⟨Y, hY⟩ : ∃ Y, ((((((wC.setCell ⟨H, 0, none⟩ (.int .i64 (a : Int))).setCell ⟨H, 1, none⟩ (.int .i64 (b : Int))).setCell ⟨H, 2, none⟩ (.int .i64 (c : Int))).setCell ⟨H, 3, none⟩ (.int .i64 (d : Int))).setCell ⟨H, 4, none⟩ (.bool true)).setCell ⟨H, 5, none⟩ (.bool true)) = Y := ⟨_, rfl⟩
              have hK : Blk Y H 58 (pcells ⟨(a : Int), (b : Int), (c : Int), (d : Int), true, true⟩) := by rw [← hY]; exact blk_put y1C ⟨(a : Int), (b : Int), (c : Int), (d : Int), true, true⟩
              have hbY : Below H w Y := by rw [← hY]; exact (Below.setCell (Below.setCell (Below.setCell (Below.setCell (Below.setCell (Below.setCell ((hb.alloc (by omega) _).trans (hbC.mono (by simp; omega))) (by dsimp only; omega) _) (by dsimp only; omega) _) (by dsimp only; omega) _) (by dsimp only; omega) _) (by dsimp only; omega) _) (by dsimp only; omega) _)
              rw [hY]
              clear hY
              have q0 : Y.cell? ⟨H, 0, none⟩ = some (.int .i64 (a : Int)) := hK.cell 0
              have q1 : Y.cell? ⟨H, 1, none⟩ = some (.int .i64 (b : Int)) := hK.cell 1
              have q2 : Y.cell? ⟨H, 2, none⟩ = some (.int .i64 (c : Int)) := hK.cell 2
              have q3 : Y.cell? ⟨H, 3, none⟩ = some (.int .i64 (d : Int)) := hK.cell 3
              have q4 : Y.cell? ⟨H, 4, none⟩ = some (.bool true) := hK.cell 4
              have q5 : Y.cell? ⟨H, 5, none⟩ = some (.bool true) := hK.cell 5
              rw [HRP.out]
              exact bodyPost_ret (v := .tuple #[.agg #[.int .i64 (a : Int), .int .i64 (b : Int), .int .i64 (c : Int), .int .i64 (d : Int), .bool true, .bool true], .int .i64 0]) (by simp [results, Tryd.results40, go_sem, q0, q1, q2, q3, q4, q5]) rfl ⟨rfl, by first | exact hbY | (rw [hH]; exact hbY)⟩
            · have hpk : pchk (a : Int) (b : Int) (c : Int) (d : Int) = 2 := by
                unfold pchk
                rw [if_neg]
                intro h
                exact hok (by unfold okP; exact decide_eq_true h)
              have HRP := Lib.hid (show rparse s.data.toList = (prm0, 2) by unfold rparse; rw [← hK]; dsimp only; rw [if_neg hok])
              rw [hpk] at qC
              clear hok hpk hK HK hrdl
              go_wp2_with (first | (go_at_call 82; (with_reducible refine (qA1 _).mono ?_); rintro en wa ⟨rfl, rfl⟩) | (go_at_call 82; (with_reducible refine (qA2 _).mono ?_); rintro en wa ⟨rfl, rfl⟩) | (go_at_call 56; refine (qC _).mono ?_; rintro en wC ⟨rfl, hbC⟩; have hsC := hbC.size; (simp at hsC); have p0 : wC.cell? ⟨wr.heap.size, 0, none⟩ = some (.int .i64 (a : Int)) := (hbC.cell (p := ⟨wr.heap.size, 0, none⟩) (by simp)).trans (by simp [go_sem]); have p1 : wC.cell? ⟨wr.heap.size, 1, none⟩ = some (.int .i64 (b : Int)) := (hbC.cell (p := ⟨wr.heap.size, 1, none⟩) (by simp)).trans (by simp [go_sem]); have p2 : wC.cell? ⟨wr.heap.size, 2, none⟩ = some (.int .i64 (c : Int)) := (hbC.cell (p := ⟨wr.heap.size, 2, none⟩) (by simp)).trans (by simp [go_sem]); have p3 : wC.cell? ⟨wr.heap.size, 3, none⟩ = some (.int .i64 (d : Int)) := (hbC.cell (p := ⟨wr.heap.size, 3, none⟩) (by simp)).trans (by simp [go_sem]); have p4 : wC.cell? ⟨wr.heap.size, 4, none⟩ = some (.bool true) := (hbC.cell (p := ⟨wr.heap.size, 4, none⟩) (by simp)).trans (by simp [go_sem]); have p5 : wC.cell? ⟨wr.heap.size, 5, none⟩ = some (.bool true) := (hbC.cell (p := ⟨wr.heap.size, 5, none⟩) (by simp)).trans (by simp [go_sem]); have y1C := (y1.alloc (.cells #[.int .i64 (a : Int), .int .i64 (b : Int), .int .i64 (c : Int), .int .i64 (d : Int), .bool true, .bool true] 58)).later hbC; have u0 : wC.cell? ⟨H, 0, none⟩ = some (.int .i64 0) := y1C.cell 0; have v0 := y1C.frozen 0; have u1 : wC.cell? ⟨H, 1, none⟩ = some (.int .i64 0) := y1C.cell 1; have v1 := y1C.frozen 1; have u2 : wC.cell? ⟨H, 2, none⟩ = some (.int .i64 0) := y1C.cell 2; have v2 := y1C.frozen 2; have u3 : wC.cell? ⟨H, 3, none⟩ = some (.int .i64 0) := y1C.cell 3; have v3 := y1C.frozen 3; have u4 : wC.cell? ⟨H, 4, none⟩ = some (.bool false) := y1C.cell 4; have v4 := y1C.frozen 4; have u5 : wC.cell? ⟨H, 5, none⟩ = some (.bool false) := y1C.cell 5; have v5 := y1C.frozen 5))
              obtain ⟨Y, hY⟩ : ∃ Y, ((((((wC.setCell ⟨H, 0, none⟩ (.int .i64 0)).setCell ⟨H, 1, none⟩ (.int .i64 0)).setCell ⟨H, 2, none⟩ (.int .i64 0)).setCell ⟨H, 3, none⟩ (.int .i64 0)).setCell ⟨H, 4, none⟩ (.bool false)).setCell ⟨H, 5, none⟩ (.bool false)) = Y := ⟨_, rfl⟩
              have hK : Blk Y H 58 (pcells prm0) := by rw [← hY]; exact blk_put y1C prm0
              have hbY : Below H w Y := by rw [← hY]; exact (Below.setCell (Below.setCell (Below.setCell (Below.setCell (Below.setCell (Below.setCell ((hb.alloc (by omega) _).trans (hbC.mono (by simp; omega))) (by dsimp only; omega) _) (by dsimp only; omega) _) (by dsimp only; omega) _) (by dsimp only; omega) _) (by dsimp only; omega) _) (by dsimp only; omega) _)
              rw [hY]
              clear hY
              have q0 : Y.cell? ⟨H, 0, none⟩ = some (.int .i64 0) := hK.cell 0
              have q1 : Y.cell? ⟨H, 1, none⟩ = some (.int .i64 0) := hK.cell 1
              have q2 : Y.cell? ⟨H, 2, none⟩ = some (.int .i64 0) := hK.cell 2
              have q3 : Y.cell? ⟨H, 3, none⟩ = some (.int .i64 0) := hK.cell 3
              have q4 : Y.cell? ⟨H, 4, none⟩ = some (.bool false) := hK.cell 4
              have q5 : Y.cell? ⟨H, 5, none⟩ = some (.bool false) := hK.cell 5
              rw [HRP.out]
              exact bodyPost_ret (v := .tuple #[.agg #[.int .i64 0, .int .i64 0, .int .i64 0, .int .i64 0, .bool false, .bool false], .int .i64 2]) (by simp [results, Tryd.results40, go_sem, q0, q1, q2, q3, q4, q5]) rfl ⟨rfl, by first | exact hbY | (rw [hH]; exact hbY)⟩
          · have te : r2.toList.isEmpty = false := by simpa using he
            have tb : (r2.toList == []) = false := by simpa using he
            rw [if_neg (by rw [← ByteArray.toList_eq]; exact he)] at hK
            have HRP := Lib.hid (show rparse s.data.toList = (prm0, 3) by unfold rparse; rw [← hK])
            clear hK HK qC hrdl
            go_wp2_with (first | (go_at_call 82; (with_reducible refine (qA1 _).mono ?_); rintro en wa ⟨rfl, rfl⟩) | (go_at_call 82; (with_reducible refine (qA2 _).mono ?_); rintro en wa ⟨rfl, rfl⟩))
            obtain ⟨Y, hY⟩ : ∃ Y, (((((((wr.alloc (.cells #[.int .i64 (a : Int), .int .i64 (b : Int), .int .i64 (c : Int), .int .i64 (d : Int), .bool true, .bool true] 58)).setCell ⟨H, 0, none⟩ (.int .i64 0)).setCell ⟨H, 1, none⟩ (.int .i64 0)).setCell ⟨H, 2, none⟩ (.int .i64 0)).setCell ⟨H, 3, none⟩ (.int .i64 0)).setCell ⟨H, 4, none⟩ (.bool false)).setCell ⟨H, 5, none⟩ (.bool false)) = Y := ⟨_, rfl⟩
            have hK : Blk Y H 58 (pcells prm0) := by rw [← hY]; exact blk_put y1B prm0
            have hbY : Below H w Y := by rw [← hY]; exact (Below.setCell (Below.setCell (Below.setCell (Below.setCell (Below.setCell (Below.setCell (hb.alloc (by omega) _) (by dsimp only; omega) _) (by dsimp only; omega) _) (by dsimp only; omega) _) (by dsimp only; omega) _) (by dsimp only; omega) _) (by dsimp only; omega) _)
            rw [hY]
            clear hY
            have q0 : Y.cell? ⟨H, 0, none⟩ = some (.int .i64 0) := hK.cell 0
            have q1 : Y.cell? ⟨H, 1, none⟩ = some (.int .i64 0) := hK.cell 1
            have q2 : Y.cell? ⟨H, 2, none⟩ = some (.int .i64 0) := hK.cell 2
            have q3 : Y.cell? ⟨H, 3, none⟩ = some (.int .i64 0) := hK.cell 3
            have q4 : Y.cell? ⟨H, 4, none⟩ = some (.bool false) := hK.cell 4
            have q5 : Y.cell? ⟨H, 5, none⟩ = some (.bool false) := hK.cell 5
            rw [HRP.out]
            exact bodyPost_ret (v := .tuple #[.agg #[.int .i64 0, .int .i64 0, .int .i64 0, .int .i64 0, .bool false, .bool false], .int .i64 3]) (by simp [results, Tryd.results40, go_sem, q0, q1, q2, q3, q4, q5]) rfl ⟨rfl, by first | exact hbY | (rw [hH]; exact hbY)⟩
end Go.Proofs.YtmblpmaelglnpaaDoor
