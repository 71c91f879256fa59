/-
  Block, walked: of the program.
-/
import Derived.Test.YtammacofhdbgcaaRows
import Derived.Test.YtammacofhdbgcaaParseIter
import Derived.Test.YtammacofhdbgcaaParseChk
import Derived.Test.YtammacofhdbgcaaGMatB
import Derived.Test.YtammacofhdbgcaaFlat
import Derived.Test.YtammacofhdbgcaaRoundDraw
import Derived.Test.YtammacofhdbgcaaGBase
import Derived.Deep.Light
import Derived.Shelf.Abstract
import Derived.Shelf.RegionOpen
import Derived.OwnWalkIn
import Derived.TacticsInMore
import Derived.LoopNIn
import Derived.LoopIn
import Derived.Outline
import Derived.Maps.OwnIn
import Derived.IntWalk
namespace Go.Proofs.Ytammacofhdbgcaa
open Go.RowKit
set_option linter.unusedSimpArgs false
set_option linter.unusedVariables false
open Go.Shelf
attribute [local go_sem] eq32 Oper.semAt_some

/-- What hands back the sequences of a block, its literals, a history and an error: the slice lies in new memory. -/
def BlkPost (R : (List (Int × Int × Int) × ByteArray × (Int × Int × Int)) × Int) (w : World) (en : Ending) (w' : World) : Prop :=
  ∃ pa ca, en = .returned (.tuple #[.slice pa R.1.1.length ca, .string R.1.2.1, .agg #[.int .i64 R.1.2.2.1, .int .i64 R.1.2.2.2.1, .int .i64 R.1.2.2.2.2], .int .i64 R.2]) ∧ (∀ g, (Value.slice pa R.1.1.length ca).ownBlock = some g → w.heap.size ≤ g) ∧ RowQ w' pa R.1.1 ∧ Below w.heap.size w w'
theorem blkPost_err (x : Int) {w w' : World} (hb : Below w.heap.size w w') : BlkPost (([], ⟨#[]⟩, (0, 0, 0)), x) w (.returned (.tuple #[.slice none 0 0, .string ⟨#[]⟩, .agg #[.int .i64 0, .int .i64 0, .int .i64 0], .int .i64 x])) w' :=
  ⟨none, 0, rfl, fun g h => by simp [Value.ownBlock] at h, .inl rfl, hb⟩
/-- The boxes of Block. -/
def BBox (H : Nat) (s : ByteArray) (p : Nat) (L W J O a b c : Int) (sy ch : Bool) (w : World) : Prop := Blk w (H) 9 [.string s] ∧ Blk w (H + 1) 3 [.int .i64 (p : Int)] ∧ Blk w (H + 1 + 1) 57 [.int .i64 L, .int .i64 W, .int .i64 J, .int .i64 O, .bool sy, .bool ch] ∧ Blk w (H + 1 + 1 + 1) 23 [.int .i64 a, .int .i64 b, .int .i64 c] ∧ Blk w (H + 1 + 1 + 1 + 1) 58 [.slice none 0 0] ∧ Blk w (H + 1 + 1 + 1 + 1 + 1) 9 [.string { data := #[] }] ∧ Blk w (H + 1 + 1 + 1 + 1 + 1 + 1) 23 [.int .i64 0, .int .i64 0, .int .i64 0]
theorem BBox.later {H p : Nat} {s : ByteArray} {L W J O a b c : Int} {sy ch : Bool} {w w' : World} (h : BBox H s p L W J O a b c sy ch w) (hb : Below w.heap.size w w') : BBox H s p L W J O a b c sy ch w' :=
  ⟨h.1.later hb, h.2.1.later hb, h.2.2.1.later hb, h.2.2.2.1.later hb, h.2.2.2.2.1.later hb, h.2.2.2.2.2.1.later hb, h.2.2.2.2.2.2.later hb⟩
/-- What lies in the boxes of Block when so many sequences have come. -/
def BInv (W0 : World) (bs bq bl bt bn bw bk bp : Nat) (s : ByteArray) (p e : Nat) (l dp : Int) (lz : Nat) (a b c : Int) (i L : Nat) (X : World) : Prop :=
  ∃ ad cap, Blk X bl 58 [.slice ad i cap] ∧ Blk X bt 9 [.string (pLits s p e l dp lz a b c i)] ∧ Blk X bs 9 [.string s] ∧ Blk X bq 3 [.int .i64 ((pS s p e l dp lz a b c i).1 : Nat)] ∧ Blk X bn 23 [.int .i64 0, .int .i64 0, .int .i64 0] ∧ X.cell? ⟨bw, 0, none⟩ = some (.pointer (some ⟨bk, 0, none⟩)) ∧
    X.ownsRow W0.heap.size 71 3 (.slice ad i cap) i (flat ((List.range i).map (pQ s p e l dp lz a b c))) ∧ (∀ g, (Value.slice ad i cap).ownBlock = some g → g < L ∧ 0 < i) ∧ (0 < i → L ≤ X.heap.size) ∧ But (fun k => (k = bp ∨ k = bk) ∨ k = bl ∨ k = bt ∨ k = bq) W0 X
theorem Blk.but {S : Nat → Prop} {X Y : World} {B : Nat} {t : TypeId} {vs : List Value} (h : Blk X B t vs) (hb : But S X Y) (hn : ¬ S B) : Blk Y B t vs := hb.block _ _ hn h
section
variable {W0 X Y : World} {bs bq bl bt bn bw bk bp p e lz i L B : Nat} {s : ByteArray} {l dp a b c : Int}
theorem BInv.xw (h : BInv W0 bs bq bl bt bn bw bk bp s p e l dp lz a b c i L X) : X.cell? ⟨bw, 0, none⟩ = some (.pointer (some ⟨bk, 0, none⟩)) := by
  obtain ⟨ad, cap, y1, y2, y3, y4, y5, y6, y7, y8, y8b, y9⟩ := h
  exact y6
theorem BInv.keep (h : BInv W0 bs bq bl bt bn bw bk bp s p e l dp lz a b c i L X) (hk : Keep W0.heap.size X Y) : BInv W0 bs bq bl bt bn bw bk bp s p e l dp lz a b c i L Y := by
  obtain ⟨ad, cap, y1, y2, y3, y4, y5, y6, y7, y8, y8b, y9⟩ := h
  exact ⟨ad, cap, y1.keep hk, y2.keep hk, y3.keep hk, y4.keep hk, y5.keep hk, hk.cell y6, hk.ownsRow y7, y8, fun h => Nat.le_trans (y8b h) hk.size, y9.keep hk⟩
theorem BInv.but (n2 : bq < bl) (n3 : bl < bt) (n4 : bt < bn) (n5 : bn < bk) (n6 : bk < bw) (n7 : bw < bp) (n8 : bp < W0.heap.size) (n1 : bs < bq) (hb : But (fun k => k = bp ∨ k = bk) X Y) (h : BInv W0 bs bq bl bt bn bw bk bp s p e l dp lz a b c i L X) : BInv W0 bs bq bl bt bn bw bk bp s p e l dp lz a b c i L Y := by
  obtain ⟨ad, cap, y1, y2, y3, y4, y5, y6, y7, y8, y8b, y9⟩ := h
  exact ⟨ad, cap, y1.but hb (by simp; omega), y2.but hb (by simp; omega), y3.but hb (by simp; omega), y4.but hb (by simp; omega), y5.but hb (by simp; omega), hb.cell (by simp; omega) y6, hb.ownsRow y7 (fun k hk => by simp; omega), y8, fun h => Nat.le_trans (y8b h) hb.size, y9.trans (hb.mono fun k hk => .inl hk)⟩
end
set_option maxRecDepth 100000 in
set_option maxHeartbeats 16000000 in
theorem block_1 (s : ByteArray) (p e lz : Nat) (L W J O a b c : Int) (sy ch : Bool) (w : World) (hs : s.size ≤ 1048576) (hpk : pOk L W J O) (hp : p ≤ e) (he : e ≤ s.size) (hc : chkL true [a, b, c] = 0) (hlz : lazyT L = (lz : Int)) (hz : lz ≤ 2) (hq : Pask s.size p e L W J O a b c = 0) :
    Calls Try.prog 36 #[.string s, .int .i64 (p : Int), .int .i64 (e : Int), .agg #[.int .i64 L, .int .i64 W, .int .i64 J, .int .i64 O, .bool sy, .bool ch], .agg #[.int .i64 a, .int .i64 b, .int .i64 c]] w (BlkPost (pblock s p e W (depthT L) lz a b c, 0) w) := by
  have q1 := fun w => checked_p24 s p e L W J O a b c sy ch w (by omega)
  rw [hq] at q1
  have q2 := fun w => of_p24 s e L W J O a b c sy ch w hpk
  rw [hlz] at q2
  have HOK := Lib.hid (pS_ok s p e W (depthT L) lz a b c hp he hs hc)
  have HLS := Lib.hid (pLits_size s p e W (depthT L) lz a b c hp he hs hc)
  clear hq hpk hlz hc
  generalize depthT L = dp at q2 HOK HLS ⊢
  refine calls_of_marks Try.func36 rfl ?_
  simp only [Try.ntmps36, List.size_toArray, List.length_cons, List.length_nil, Nat.reduceAdd, Nat.reduceSub, Array.replicate_succ, Array.replicate_zero, List.push_toArray, List.append_toArray, List.nil_append, List.cons_append]
  go_wp2_with (first | (go_at_call 67; refine (q1 _).mono ?_; rintro en w1 ⟨rfl, hb⟩; have hN1 : BBox w.heap.size s p L W J O a b c sy ch w1 := BBox.later ⟨(Blk.alloc (Blk.alloc (Blk.alloc (Blk.alloc (Blk.alloc (Blk.alloc (by simpa using Blk.new w 9 #[.string s]) _) _) _) _) _) _), (Blk.alloc (Blk.alloc (Blk.alloc (Blk.alloc (Blk.alloc (by simpa using Blk.new (w.alloc (.cells #[.string s] 9)) 3 #[.int .i64 (p : Int)]) _) _) _) _) _), (Blk.alloc (Blk.alloc (Blk.alloc (Blk.alloc (by simpa using Blk.new ((w.alloc (.cells #[.string s] 9)).alloc (.cells #[.int .i64 (p : Int)] 3)) 57 #[.int .i64 L, .int .i64 W, .int .i64 J, .int .i64 O, .bool sy, .bool ch]) _) _) _) _), (Blk.alloc (Blk.alloc (Blk.alloc (by simpa using Blk.new (((w.alloc (.cells #[.string s] 9)).alloc (.cells #[.int .i64 (p : Int)] 3)).alloc (.cells #[.int .i64 L, .int .i64 W, .int .i64 J, .int .i64 O, .bool sy, .bool ch] 57)) 23 #[.int .i64 a, .int .i64 b, .int .i64 c]) _) _) _), (Blk.alloc (Blk.alloc (by simpa using Blk.new ((((w.alloc (.cells #[.string s] 9)).alloc (.cells #[.int .i64 (p : Int)] 3)).alloc (.cells #[.int .i64 L, .int .i64 W, .int .i64 J, .int .i64 O, .bool sy, .bool ch] 57)).alloc (.cells #[.int .i64 a, .int .i64 b, .int .i64 c] 23)) 58 #[.slice none 0 0]) _) _), (Blk.alloc (by simpa using Blk.new (((((w.alloc (.cells #[.string s] 9)).alloc (.cells #[.int .i64 (p : Int)] 3)).alloc (.cells #[.int .i64 L, .int .i64 W, .int .i64 J, .int .i64 O, .bool sy, .bool ch] 57)).alloc (.cells #[.int .i64 a, .int .i64 b, .int .i64 c] 23)).alloc (.cells #[.slice none 0 0] 58)) 9 #[.string { data := #[] }]) _), (by simpa using Blk.new ((((((w.alloc (.cells #[.string s] 9)).alloc (.cells #[.int .i64 (p : Int)] 3)).alloc (.cells #[.int .i64 L, .int .i64 W, .int .i64 J, .int .i64 O, .bool sy, .bool ch] 57)).alloc (.cells #[.int .i64 a, .int .i64 b, .int .i64 c] 23)).alloc (.cells #[.slice none 0 0] 58)).alloc (.cells #[.string { data := #[] }] 9)) 23 #[.int .i64 0, .int .i64 0, .int .i64 0])⟩ hb; have hs1 := hb.size; (simp at hs1); have hq1 := hN1; obtain ⟨x01, x11, x21, x31, x41, x51, x61⟩ := hq1; have c001 : w1.cell? ⟨w.heap.size, 0, none⟩ = some (.string s) := x01.cell 0; have l01 : w.heap.size < w1.heap.size := x01.lt; have c101 : w1.cell? ⟨w.heap.size + 1, 0, none⟩ = some (.int .i64 (p : Int)) := x11.cell 0; have l11 : w.heap.size + 1 < w1.heap.size := x11.lt; have c201 : w1.cell? ⟨w.heap.size + 1 + 1, 0, none⟩ = some (.int .i64 L) := x21.cell 0; have c211 : w1.cell? ⟨w.heap.size + 1 + 1, 1, none⟩ = some (.int .i64 W) := x21.cell 1; have c221 : w1.cell? ⟨w.heap.size + 1 + 1, 2, none⟩ = some (.int .i64 J) := x21.cell 2; have c231 : w1.cell? ⟨w.heap.size + 1 + 1, 3, none⟩ = some (.int .i64 O) := x21.cell 3; have c241 : w1.cell? ⟨w.heap.size + 1 + 1, 4, none⟩ = some (.bool sy) := x21.cell 4; have c251 : w1.cell? ⟨w.heap.size + 1 + 1, 5, none⟩ = some (.bool ch) := x21.cell 5; have l21 : w.heap.size + 1 + 1 < w1.heap.size := x21.lt; have c301 : w1.cell? ⟨w.heap.size + 1 + 1 + 1, 0, none⟩ = some (.int .i64 a) := x31.cell 0; have c311 : w1.cell? ⟨w.heap.size + 1 + 1 + 1, 1, none⟩ = some (.int .i64 b) := x31.cell 1; have c321 : w1.cell? ⟨w.heap.size + 1 + 1 + 1, 2, none⟩ = some (.int .i64 c) := x31.cell 2; have l31 : w.heap.size + 1 + 1 + 1 < w1.heap.size := x31.lt; have c401 : w1.cell? ⟨w.heap.size + 1 + 1 + 1 + 1, 0, none⟩ = some (.slice none 0 0) := x41.cell 0; have l41 : w.heap.size + 1 + 1 + 1 + 1 < w1.heap.size := x41.lt; have c501 : w1.cell? ⟨w.heap.size + 1 + 1 + 1 + 1 + 1, 0, none⟩ = some (.string { data := #[] }) := x51.cell 0; have l51 : w.heap.size + 1 + 1 + 1 + 1 + 1 < w1.heap.size := x51.lt; have c601 : w1.cell? ⟨w.heap.size + 1 + 1 + 1 + 1 + 1 + 1, 0, none⟩ = some (.int .i64 0) := x61.cell 0; have c611 : w1.cell? ⟨w.heap.size + 1 + 1 + 1 + 1 + 1 + 1, 1, none⟩ = some (.int .i64 0) := x61.cell 1; have c621 : w1.cell? ⟨w.heap.size + 1 + 1 + 1 + 1 + 1 + 1, 2, none⟩ = some (.int .i64 0) := x61.cell 2; have l61 : w.heap.size + 1 + 1 + 1 + 1 + 1 + 1 < w1.heap.size := x61.lt) | (go_at_call 68; refine (q2 _).mono ?_; rintro en w2 ⟨bk, rfl, hbk, hK2, hb2⟩; have hN2 := hN1.later hb2; have hs2 := hb2.size; have hq2 := hN2; obtain ⟨x02, x12, x22, x32, x42, x52, x62⟩ := hq2; have c002 : w2.cell? ⟨w.heap.size, 0, none⟩ = some (.string s) := x02.cell 0; have l02 : w.heap.size < w2.heap.size := x02.lt; have c102 : w2.cell? ⟨w.heap.size + 1, 0, none⟩ = some (.int .i64 (p : Int)) := x12.cell 0; have l12 : w.heap.size + 1 < w2.heap.size := x12.lt; have c202 : w2.cell? ⟨w.heap.size + 1 + 1, 0, none⟩ = some (.int .i64 L) := x22.cell 0; have c212 : w2.cell? ⟨w.heap.size + 1 + 1, 1, none⟩ = some (.int .i64 W) := x22.cell 1; have c222 : w2.cell? ⟨w.heap.size + 1 + 1, 2, none⟩ = some (.int .i64 J) := x22.cell 2; have c232 : w2.cell? ⟨w.heap.size + 1 + 1, 3, none⟩ = some (.int .i64 O) := x22.cell 3; have c242 : w2.cell? ⟨w.heap.size + 1 + 1, 4, none⟩ = some (.bool sy) := x22.cell 4; have c252 : w2.cell? ⟨w.heap.size + 1 + 1, 5, none⟩ = some (.bool ch) := x22.cell 5; have l22 : w.heap.size + 1 + 1 < w2.heap.size := x22.lt; have c302 : w2.cell? ⟨w.heap.size + 1 + 1 + 1, 0, none⟩ = some (.int .i64 a) := x32.cell 0; have c312 : w2.cell? ⟨w.heap.size + 1 + 1 + 1, 1, none⟩ = some (.int .i64 b) := x32.cell 1; have c322 : w2.cell? ⟨w.heap.size + 1 + 1 + 1, 2, none⟩ = some (.int .i64 c) := x32.cell 2; have l32 : w.heap.size + 1 + 1 + 1 < w2.heap.size := x32.lt; have c402 : w2.cell? ⟨w.heap.size + 1 + 1 + 1 + 1, 0, none⟩ = some (.slice none 0 0) := x42.cell 0; have l42 : w.heap.size + 1 + 1 + 1 + 1 < w2.heap.size := x42.lt; have c502 : w2.cell? ⟨w.heap.size + 1 + 1 + 1 + 1 + 1, 0, none⟩ = some (.string { data := #[] }) := x52.cell 0; have l52 : w.heap.size + 1 + 1 + 1 + 1 + 1 < w2.heap.size := x52.lt; have c602 : w2.cell? ⟨w.heap.size + 1 + 1 + 1 + 1 + 1 + 1, 0, none⟩ = some (.int .i64 0) := x62.cell 0; have c612 : w2.cell? ⟨w.heap.size + 1 + 1 + 1 + 1 + 1 + 1, 1, none⟩ = some (.int .i64 0) := x62.cell 1; have c622 : w2.cell? ⟨w.heap.size + 1 + 1 + 1 + 1 + 1 + 1, 2, none⟩ = some (.int .i64 0) := x62.cell 2; have l62 : w.heap.size + 1 + 1 + 1 + 1 + 1 + 1 < w2.heap.size := x62.lt) | go_in)
  obtain ⟨W0, hW0⟩ : ∃ W0, ((w2.alloc (.cells #[.pointer (some ⟨bk, 0, none⟩)] 95)).alloc (.cells #[.int .i64 (p : Int)] 3)) = W0 := ⟨_, rfl⟩
  have hB20 : Below w2.heap.size w2 W0 := by rw [← hW0]; repeat' (first | exact Below.refl _ _ | refine Below.drew ?_ | refine below_drewN ?_ _ | refine Below.alloc ?_ (by first | omega | (simp <;> omega)) _ | refine Below.setCell ?_ (by first | omega | (simp <;> omega)) _ | refine Below.trans ?_ (Below.mono (by assumption) (by first | omega | (simp <;> omega))))
  have B0 : Below w.heap.size w W0 := by
    rw [← hW0]
    repeat' (first | exact Below.refl _ _ | refine Below.drew ?_ | refine below_drewN ?_ _ | refine Below.alloc ?_ (by first | omega | (simp <;> omega)) _ | refine Below.setCell ?_ (by first | omega | (simp <;> omega)) _ | refine Below.trans ?_ (Below.mono (by assumption) (by first | omega | (simp <;> omega))))
  have S0 : w2.heap.size + 2 ≤ W0.heap.size := by rw [← hW0]; simp
  have hN0 := hN2.later hB20
  have hK0 := hK2.later hB20
  have xw : W0.cell? ⟨w2.heap.size, 0, none⟩ = some (.pointer (some ⟨bk, 0, none⟩)) := by rw [← hW0]; simp [go_sem]
  have xp : Blk W0 (w2.heap.size + 1) 3 [.int .i64 (p : Int)] := by rw [← hW0]; simpa using Blk.new (w2.alloc (.cells #[.pointer (some ⟨bk, 0, none⟩)] 95)) 3 #[.int .i64 (p : Int)]
  have hbk2 := hK2.lt
  rw [hW0]
  have hN0s := hN0.2.2.2.2.2.2.lt
  have hn7 : w.heap.size + 7 ≤ w1.heap.size := by omega
  unfold BBox at hN0
  obtain ⟨v0, v1, v2, v3, v4, v5, v6⟩ := hN0
  (try clear c001); (try clear c002); (try clear c101); (try clear c102); (try clear c201); (try clear c202); (try clear c211); (try clear c212); (try clear c221); (try clear c222); (try clear c231); (try clear c232); (try clear c241); (try clear c242); (try clear c251); (try clear c252); (try clear c301); (try clear c302); (try clear c311); (try clear c312); (try clear c321); (try clear c322); (try clear c401); (try clear c402); (try clear c501); (try clear c502); (try clear c601); (try clear c602); (try clear c611); (try clear c612); (try clear c621); (try clear c622); (try clear x01); (try clear x02); (try clear x11); (try clear x12); (try clear x21); (try clear x22); (try clear x31); (try clear x32); (try clear x41); (try clear x42); (try clear x51); (try clear x52); (try clear x61); (try clear x62); (try clear l01); (try clear l02); (try clear l11); (try clear l12); (try clear l21); (try clear l22); (try clear l31); (try clear l32); (try clear l41); (try clear l42); (try clear l51); (try clear l52); (try clear l61); (try clear l62); (try clear hq1); (try clear hq2); (try clear hN1); (try clear hN2); (try clear hW0); (try clear hK2); (try clear hb); (try clear hb2); (try clear hB20); (try clear q1); (try clear q2); (try clear v2); (try clear v3)
  obtain ⟨bs, hbs⟩ : ∃ n, w.heap.size = n := ⟨_, rfl⟩
  obtain ⟨bq, hbq⟩ : ∃ n, bs + 1 = n := ⟨_, rfl⟩
  obtain ⟨bl, hbl⟩ : ∃ n, bs + 1 + 1 + 1 + 1 = n := ⟨_, rfl⟩
  obtain ⟨bt, hbt⟩ : ∃ n, bl + 1 = n := ⟨_, rfl⟩
  obtain ⟨bn, hbn⟩ : ∃ n, bt + 1 = n := ⟨_, rfl⟩
  obtain ⟨bw, hbw⟩ : ∃ n, w2.heap.size = n := ⟨_, rfl⟩
  obtain ⟨bp, hbp⟩ : ∃ n, bw + 1 = n := ⟨_, rfl⟩
  have n0 : bs + 1 < bl ∧ bl < bt ∧ bt < bn ∧ bn < bk ∧ bk < bw ∧ bw < bp ∧ bp < W0.heap.size := by omega
  simp only [hbs, hbl, hbt, hbn, hbw, hbp] at v0 v1 v4 v5 v6 xw xp B0 n0 ⊢
  obtain ⟨bq, hbq⟩ : ∃ n, bs + 1 = n := ⟨_, rfl⟩
  have n1 : bs < bq := by omega
  rw [hbq] at v1 n0
  simp only [hbq]
  obtain ⟨n2, n3, n4, n5, n6, n7, n8⟩ := n0
  have HBS := Lib.hid hbs
  clear hbs hbl hbt hbn hbw hbp hbq hN0s hn7 hs1 hs2 S0 hbk hbk2
  obtain ⟨i3, hi3, hz0, hz1, hz2⟩ := info_parts infoSeq
  obtain ⟨hin, hok, hout⟩ := HOK.out
  have hN4 : pN s p e W dp lz a b c ≤ 1048576 := by
    obtain ⟨g1, g2⟩ := hok _ (Nat.le_refl _)
    obtain ⟨g3, g4, g5, g6⟩ := g1
    omega
  obtain ⟨N, hN⟩ : ∃ N, pN s p e W dp lz a b c = N := ⟨_, rfl⟩
  have HN := Lib.hid hN
  rw [hN] at hin hok hout hN4
  have HIN := Lib.hid hin
  have HOKK := Lib.hid hok
  have HOUT := Lib.hid hout
  have HV := Lib.hid (⟨v0, v1, v4, v5, v6, xw⟩ : Blk W0 bs 9 [.string s] ∧ Blk W0 bq 3 [.int .i64 (p : Int)] ∧ Blk W0 bl 58 [.slice none 0 0] ∧ Blk W0 bt 9 [.string ⟨#[]⟩] ∧ Blk W0 bn 23 [.int .i64 0, .int .i64 0, .int .i64 0] ∧ W0.cell? ⟨bw, 0, none⟩ = some (.pointer (some ⟨bk, 0, none⟩)))
  have HK0 := Lib.hid hK0
  have HXP := Lib.hid xp
  have HB0 := Lib.hid B0
  clear hin hok hout v0 v1 v4 v5 v6 xw hK0 xp hN B0
  refine wp_rangeL_box (gf := 94) (lb := #[.pointer (some ⟨bw, 0, none⟩), .pointer (some ⟨bp, 0, none⟩)]) rfl (enters_of Try.func94 (by kernel_rfl) rfl) (fun k => k = bp ∨ k = bk) (fun k h => by omega) N (seqArgs s e W dp lz (p, a, b, c)) (fun _ => rfl)
    (BInv W0 bs bq bl bt bn bw bk bp s p e W dp lz a b c) (fun _ _ => False)
    (fun i x X => Blk X x 71 [.int .i64 (pQ s p e W dp lz a b c i).1, .int .i64 (pQ s p e W dp lz a b c i).2.1, .int .i64 (pQ s p e W dp lz a b c i).2.2] ∧ W0.heap.size ≤ x)
    ?hI ?hIS (fun X => Blk X bk 103 [.int .i64 (pS s p e W dp lz a b c N).2.1, .int .i64 (pS s p e W dp lz a b c N).2.2.1, .int .i64 (pS s p e W dp lz a b c N).2.2.2, .string s, .int .i64 (e : Int), .int .i64 W, .int .i64 dp, .int .i64 (lz : Int)]) (fun _ => True) ?hF ?hG ?hIx ?hBx ?h0 ?hround ?hiter ?hdone ?hstop
  case hI => exact fun i L X Y hk h => h.keep hk
  case hIS => exact fun i L X Y hb h => h.but n2 n3 n4 n5 n6 n7 n8 n1 hb
  case hF => exact fun X Y hk h => h.keep hk
  case hG => exact fun X Y hk h => h
  case hIx => exact fun co X Y hk h => h
  case hBx => exact fun i x X Y hk h => ⟨h.1.keep hk, h.2⟩
  case h0 =>
    intro L hL
    obtain ⟨v0, v1, v4, v5, v6, xw⟩ := HV.out
    exact ⟨none, 0, v4, v5, v0, v1, v6, xw, World.ownsRow_nil _ _ _ _, fun g hg => by simp [Value.ownBlock] at hg, fun h => by omega, But.refl _ _⟩
  case hround =>
    intro l' i L X hi hL hI hl'
    have HI := Lib.hid hI
    have hok1 := HOKK.out i (Nat.le_of_lt hi)
    obtain ⟨x, d, n, v, y, z, g1, g2, g3, g4, g5, g6, g7, g8, g9, g10, g11, g12, g13, g14⟩ := pnx_ok s e W dp lz (pS s p e W dp lz a b c i) hok1.1 (HIN.out i hi)
    have hls := HLS.out i (by rw [HN.out]; omega)
    have hQ : pQ s p e W dp lz a b c i = ((x : Int), (n : Int), v) := g1
    have hfl : flat ((List.range (i + 1)).map (pQ s p e W dp lz a b c)) = flat ((List.range i).map (pQ s p e W dp lz a b c)) ++ [.int .i64 (x : Int), .int .i64 (n : Int), .int .i64 v] := by
      rw [List.range_succ, List.map_append, flat_append, List.map_cons, List.map_nil, hQ]
      rfl
    have hlt : pLits s p e W dp lz a b c (i + 1) = pLits s p e W dp lz a b c i ++ s.extract (pS s p e W dp lz a b c i).1 ((pS s p e W dp lz a b c i).1 + x) := by
      rw [pLits, hQ]
      rfl
    have hnx : (pS s p e W dp lz a b c (i + 1)).1 = (pS s p e W dp lz a b c i).1 + x + n := by
      have : pS s p e W dp lz a b c (i + 1) = (pnx s e W dp lz (pS s p e W dp lz a b c i)).2.1 := rfl
      rw [this, g2]
    have hxs : seqArgs s e W dp lz (p, a, b, c) i = #[.int .i64 ((pS s p e W dp lz a b c i).1 : Nat), .agg #[.int .i64 (x : Int), .int .i64 (n : Int), .int .i64 v]] := by
      unfold seqArgs
      have h2 : (pnx s e W dp lz (psts s e W dp lz (p, a, b, c) i)).1 = ((x : Int), (n : Int), v) := g1
      rw [h2]
      rfl
    have hL8 : 0 < i → L ≤ X.heap.size := by obtain ⟨ad, cap, y1, y2, y3, y4, y5, y6, y7, y8, y8b, y9⟩ := HI.out; exact y8b
    have hsW : W0.heap.size ≤ X.heap.size := by obtain ⟨ad, cap, y1, y2, y3, y4, y5, y6, y7, y8, y8b, y9⟩ := HI.out; exact y9.size
    rw [hxs]
    simp only [hQ]
    obtain ⟨q, hq⟩ : ∃ q, (pS s p e W dp lz a b c i).1 = q := ⟨_, rfl⟩
    rw [hq] at g7 hlt hnx hls ⊢
    have HFL := Lib.hid hfl
    have HLS2 := Lib.hid (show (pLits s p e W dp lz a b c i).size ≤ 1048576 by omega)
    have HLT := Lib.hid hlt
    have HNX := Lib.hid hnx
    have HQ := Lib.hid hq
    have i0 : (0 : Int) ≤ (q : Int) := by omega
    have i1 : (q : Int) ≤ (q : Int) + (x : Int) := by omega
    have i2 : (q : Int) + (x : Int) ≤ (s.size : Int) := by omega
    clear hI hok1 g1 g2 g3 g4 g5 g6 g8 g9 g10 g11 g12 g13 g14 hQ hfl hlt hnx hxs hq
    gi_wp2
    have hal : Below X.heap.size X (X.alloc (.cells #[.int .i64 (x : Int), .int .i64 (n : Int), .int .i64 v] 71)) := (Below.refl _ X).alloc (Nat.le_refl _) _
    refine ⟨keepsFrom_of_below hal, Stay.of_below hal, HI.out.keep (Keep.of_below hal), X.heap.size, ⟨by simpa using Blk.new X 71 #[.int .i64 (x : Int), .int .i64 (n : Int), .int .i64 v], hsW⟩, ?_⟩
    clear hal HI
    rintro W2 hl2 ⟨ad, cap, y1, y2, y3, y4, y5, y6, y7, y8, y8b, y9⟩ ⟨z1, z2⟩
    obtain ⟨x0, hx0⟩ : ∃ x0, X.heap.size = x0 := ⟨_, rfl⟩
    rw [hx0] at z1 z2 hL8 ⊢
    rw [HQ.out] at y4
    have HY := Lib.hid (⟨y1, y2, y3, y4, y5, y6⟩ : Blk W2 bl 58 [.slice ad i cap] ∧ Blk W2 bt 9 [.string (pLits s p e W dp lz a b c i)] ∧ Blk W2 bs 9 [.string s] ∧ Blk W2 bq 3 [.int .i64 (q : Nat)] ∧ Blk W2 bn 23 [.int .i64 0, .int .i64 0, .int .i64 0] ∧ W2.cell? ⟨bw, 0, none⟩ = some (.pointer (some ⟨bk, 0, none⟩)))
    have HZ1 := Lib.hid z1
    have HY7 := Lib.hid y7
    have HY8 := Lib.hid y8
    have HY9 := Lib.hid y9
    have hs9 := y9.size
    have hx2 := z1.lt
    have c1 := y1.cell 0
    have c2 := y2.cell 0
    have c3 := y3.cell 0
    have cx0 := z1.cell 0
    have cx1 := z1.cell 1
    have cx2 := z1.cell 2
    simp at c1 c2 c3 cx0 cx1 cx2
    have f1 := y1.frozen 0
    have f2 := y2.frozen 0
    have f4 := y4.frozen 0
    clear hx0 hsW y1 y2 y3 y4 y5 y6 y7 y8 y8b y9 z1
    have CN : ∀ (j : Nat) (u : Value), [Value.int .i64 (x : Int), .int .i64 (n : Int), .int .i64 v][j]? = some u → (W2.alloc (.cells #[.int .i64 (x : Int), .int .i64 (n : Int), .int .i64 v] 71)).cell? ((⟨W2.heap.size, 0, none⟩ : Addr).add j) = some u := by
      intro j u hj
      match j, hj with
      | 0, hj => simp at hj; subst hj; simp [Addr.add, go_sem]
      | 1, hj => simp at hj; subst hj; simp [Addr.add, go_sem]
      | 2, hj => simp at hj; subst hj; simp [Addr.add, go_sem]
    have C1 : ∀ u ∈ [Value.int .i64 (x : Int), .int .i64 (n : Int), .int .i64 v], u.oneCell' = true := by
      intro u hu
      simp at hu
      rcases hu with rfl | rfl | rfl <;> rfl
    have HCN := Lib.hid CN
    have HC1 := Lib.hid C1
    clear CN C1
    gi_wp2_with (gi_at_builtin; refine wpListIn_append_own_at _ rfl _ _ 58 rfl W0.heap.size 71 i3 (.agg #[.int .i64 0, .int .i64 0, .int .i64 0]) 3 24 Try.underlying58 hi3 hz0 hz1 hz2 rfl (by decide) _ _ _ rfl (HY7.out.alloc _) ⟨W2.heap.size, 0, none⟩ 1 1 [.int .i64 (x : Int), .int .i64 (n : Int), .int .i64 v] rfl rfl HCN.out HC1.out ?_ ?_ ?_ ?_; (unfold maxLen; omega); omega; (first | omega | (simp; omega)); intro v' w4 ho' hg4 hnil hat; obtain ⟨ad', cap', rfl⟩ := own_sliceG ho'; have hb4 : Below W0.heap.size W2 w4 := ((Below.refl _ W2).alloc (by omega) _).grown hg4 (by first | omega | (dsimp only; omega) | (simp; done) | (simp; omega)) (own_base3 HY7.out); have u1 := (hb4.cell (p := ⟨bl, 0, none⟩) (by first | omega | (dsimp only; omega) | (simp; done) | (simp; omega))).trans c1; have u2 := (hb4.cell (p := ⟨bt, 0, none⟩) (by first | omega | (dsimp only; omega) | (simp; done) | (simp; omega))).trans c2; have u3 := (hb4.cell (p := ⟨bs, 0, none⟩) (by first | omega | (dsimp only; omega) | (simp; done) | (simp; omega))).trans c3; have uf1 := (hb4.frozen (p := ⟨bl, 0, none⟩) (by first | omega | (dsimp only; omega) | (simp; done) | (simp; omega))).trans f1; have uf2 := (hb4.frozen (p := ⟨bt, 0, none⟩) (by first | omega | (dsimp only; omega) | (simp; done) | (simp; omega))).trans f2; have uf4 := (hb4.frozen (p := ⟨bq, 0, none⟩) (by first | omega | (dsimp only; omega) | (simp; done) | (simp; omega))).trans f4; have far : ∀ j, w4.cell? ⟨x0, j, none⟩ = W2.cell? ⟨x0, j, none⟩ := (fun j => by rw [hg4.cell_far _ (by first | omega | (dsimp only; omega) | (simp; done) | (simp; omega)) (fun hh => by have h7 := HY8.out _ hh.symm; have := hL8 h7.2; (try simp at h7); omega)]; exact World.cell?_alloc_past _ _ _ (by first | omega | (dsimp only; omega) | (simp; done) | (simp; omega))); have ux0 := (far 0).trans cx0; have ux1 := (far 1).trans cx1; have ux2 := (far 2).trans cx2; have us4 := hg4.size; (try simp at us4))
    obtain ⟨W5, hW5⟩ : ∃ W5, w4.setCell ⟨bl, 0, none⟩ (.slice ad' (i + 1) cap') = W5 := ⟨_, rfl⟩
    have hBU5 : But (fun k => (k = bp ∨ k = bk) ∨ k = bl ∨ k = bt ∨ k = bq) W0 W5 := by rw [← hW5]; exact (HY9.out.later hb4).trans (But.setCell _ _ (.inr (.inl rfl)))
    have hKF5 : KeepsFrom W0.heap.size W2 W5 := by rw [← hW5]; exact ((keepsFrom_of_below ((Below.refl _ W2).alloc (Nat.le_refl _) _)).trans (keepsFrom_grown_o hg4 (own_cellsG (HY7.out.alloc _)))).trans ((KeepsOthers.setCell _ _ _).from _)
    have hST5 : Stay (fun k => (k = bp ∨ k = bk) ∨ L ≤ k) W2 W5 := by
      rw [← hW5]
      refine ((Stay.of_below ((Below.refl _ _).alloc (Nat.le_refl _) _)).trans (Stay.of_grown hg4 (fun g hg h => ?_))).trans (Stay.setCell w4 (a := ⟨bl, 0, none⟩) _ (by dsimp only; omega))
      have h7 := HY8.out g hg
      have := hL8 h7.2
      have := own_base3 HY7.out g hg
      omega
    have hO5 : W5.ownsRow W0.heap.size 71 3 (.slice ad' (i + 1) cap') (i + 1) (flat ((List.range (i + 1)).map (pQ s p e W dp lz a b c))) := by
      rw [← hW5, HFL.out]
      exact World.ownsRow.kept ho' (grown_setCell_o _ _ _) (.inr (fun h => by have := own_base3 ho' _ h; simp at this; omega))
    have hY5 : Blk W5 bl 58 [.slice ad' (i + 1) cap'] ∧ Blk W5 bt 9 [.string (pLits s p e W dp lz a b c i)] ∧ Blk W5 bs 9 [.string s] ∧ Blk W5 bq 3 [.int .i64 (q : Nat)] ∧ Blk W5 bn 23 [.int .i64 0, .int .i64 0, .int .i64 0] ∧ W5.cell? ⟨bw, 0, none⟩ = some (.pointer (some ⟨bk, 0, none⟩)) := by
      obtain ⟨y1, y2, y3, y4, y5, y6⟩ := HY.out
      rw [← hW5]
      exact ⟨(y1.below hb4 (by first | omega | (dsimp only; omega) | (simp; done) | (simp; omega))).set 0 _, (y2.below hb4 (by first | omega | (dsimp only; omega) | (simp; done) | (simp; omega))).other (by dsimp only; omega) _, (y3.below hb4 (by first | omega | (dsimp only; omega) | (simp; done) | (simp; omega))).other (by dsimp only; omega) _, (y4.below hb4 (by first | omega | (dsimp only; omega) | (simp; done) | (simp; omega))).other (by dsimp only; omega) _, (y5.below hb4 (by first | omega | (dsimp only; omega) | (simp; done) | (simp; omega))).other (by dsimp only; omega) _, by
        have := (hb4.cell (p := ⟨bw, 0, none⟩) (by first | omega | (dsimp only; omega) | (simp; done) | (simp; omega))).trans y6
        rw [← this]
        simp [go_sem, show ¬ bw = bl by omega, show ¬ bl = bw by omega]⟩
    have far5 : ∀ j, W5.cell? ⟨x0, j, none⟩ = W2.cell? ⟨x0, j, none⟩ := fun j => by
      rw [← hW5, ← far j]
      simp [go_sem, show ¬ x0 = bl by omega, show ¬ bl = x0 by omega]
    have hs5 : W2.heap.size ≤ W5.heap.size := by rw [← hW5]; simp; omega
    have HO5 := Lib.hid hO5
    have HY5 := Lib.hid hY5
    have d0 := (far5 0).trans cx0
    have d1 := (far5 1).trans cx1
    have d2 := (far5 2).trans cx2
    obtain ⟨y1, y2, y3, y4, y5, y6⟩ := hY5
    clear c2 c3 f2 f4
    have c2 := y2.cell 0
    have c3 := y3.cell 0
    have c4 := y4.cell 0
    simp at c2 c3 c4
    have f2 := y2.frozen 0
    have f4 := y4.frozen 0
    rw [hW5]
    clear u1 u2 u3 uf1 uf2 uf4 far ux0 ux1 ux2 us4 c1 cx0 cx1 cx2 f1 hW5 hO5 y1 y2 y3 y4 y5 y6 ho' hg4 hnil hat hb4 far5 hls
    have hmx : Try.prog.follows .mixedOrders = true := by kernel_rfl
    have n9 : ¬ bt = x0 := by omega
    have n10 : ¬ x0 = bt := by omega
    have n11 : ¬ bq = x0 := by omega
    have n12 : ¬ x0 = bq := by omega
    have n13 : ¬ bt = bq := by omega
    have n14 : ¬ bq = bt := by omega
    have l1 : x0 < W5.heap.size := by omega
    have l2 : bt < W5.heap.size := by omega
    have l3 : bq < W5.heap.size := by omega
    have hwr2 : IntKind.i64.wrap ((q : Int) + (x : Int)) = (q : Int) + (x : Int) := IntWalk.i64_in _ (by omega)
    have hnt : ((q : Int) + (x : Int)).toNat = q + x := by omega
    have hcat : ∀ X, (Op.stringOp .add (pLits s p e W dp lz a b c i) (s.extract q (q + x))).run Try.prog X = .ok (.string (pLits s p e W dp lz a b c (i + 1))) X := fun X => by
      rw [HLT.out]
      exact run_string_add_sum X _ _ (by rw [ByteArray.size_extract]; have := HLS2.out; omega)
    generalize pLits s p e W dp lz a b c i = T1 at c2 hcat
    obtain ⟨T2, hT2⟩ : ∃ T2, pLits s p e W dp lz a b c (i + 1) = T2 := ⟨_, rfl⟩
    rw [hT2] at hcat
    have HT2 := Lib.hid hT2
    clear hT2
    obtain ⟨W6, hW6⟩ : ∃ W6, (W5.drew).setCell ⟨bt, 0, none⟩ (.string T2) = W6 := ⟨_, rfl⟩
    have e0 : W6.cell? ⟨x0, 0, none⟩ = some (.int .i64 (x : Int)) := by rw [← hW6]; simp [go_sem, n9, n10, d0]
    have e1 : W6.cell? ⟨x0, 1, none⟩ = some (.int .i64 (n : Int)) := by rw [← hW6]; simp [go_sem, n9, n10, d1]
    have e4 : W6.frozen? ⟨bq, 0, none⟩ = false := by rw [← hW6]; simp [go_sem, n13, n14, f4]
    have e3 : W6.cell? ⟨bq, 0, none⟩ = some (.int .i64 (q : Int)) := by rw [← hW6]; simp [go_sem, n13, n14, c4]
    have l6 : x0 < W6.heap.size := by rw [← hW6]; simpa using l1
    have l7 : bq < W6.heap.size := by rw [← hW6]; simpa using l3
    apply wpIn_det (w1 := W6)
    case det =>
      refine wpIn_round_any _ (by kernel_rfl) (by kernel_rfl) ?_
      refine wpAnyIn_take (i := 2) (v := ?_) rfl rfl (by kernel_rfl) (by kernel_rfl) (by kernel_rfl) (fun _ _ _ h => h) ⟨Or.inl ⟨by rfl, ?_⟩, fun _ => rfl⟩ ?_
      rotate_left
      · (intro w; go_simp) <;> with_reducible rfl
      refine wpAnyIn_take (i := 3) (v := ?_) rfl rfl (by kernel_rfl) (by kernel_rfl) (by kernel_rfl) (fun _ _ _ h => h) ⟨Or.inl ⟨by rfl, ?_⟩, fun _ => rfl⟩ ?_
      rotate_left
      · (intro w; go_simp) <;> with_reducible rfl
      refine wpAnyIn_take (i := 4) (v := ?_) rfl rfl (by kernel_rfl) (by kernel_rfl) (by kernel_rfl) (fun _ _ _ h => h) ⟨Or.inl ⟨by rfl, ?_⟩, fun _ => rfl⟩ ?_
      rotate_left
      · (intro w; go_simp) <;> with_reducible rfl
      refine wpAnyIn_ready (rs := [0, 1, 5]) (by kernel_rfl) (by simp) ?_
      refine AllReadyIn.cons rfl (fun K hK => ?_) ?_
      · go_simp
        refine hK _ _ ?_
        clear hK K
        refine wpAnyIn_ready (rs := [1, 5]) (by kernel_rfl) (by simp) ?_
        refine AllReadyIn.cons rfl (fun K hK => ?_) ?_
        · go_simp
          refine hK _ _ ?_
          clear hK K
          refine wpAnyIn_ready (rs := [5]) (by kernel_rfl) (by simp) ?_
          refine AllReadyIn.cons rfl (fun K hK => ?_) ?_
          · go_simp
            refine hK _ _ ?_
            clear hK K
            refine wpAnyIn_take (i := 6) (v := ?_) rfl rfl (by kernel_rfl) (by kernel_rfl) (by kernel_rfl) (fun _ _ _ h => h) ⟨Or.inl ⟨by rfl, ?_⟩, fun _ => rfl⟩ ?_
            rotate_left
            · (intro w; go_simp) <;> with_reducible rfl
            refine wpAnyIn_take (i := 7) (v := ?_) rfl rfl (by kernel_rfl) (by kernel_rfl) (by kernel_rfl) (fun _ _ _ h => h) ⟨Or.inl ⟨by rfl, ?_⟩, fun _ => rfl⟩ ?_
            rotate_left
            · (intro w; go_simp) <;> with_reducible rfl
            refine wpAnyIn_take (i := 8) (v := ?_) rfl rfl (by kernel_rfl) (by kernel_rfl) (by kernel_rfl) (fun _ _ _ h => h) ⟨Or.inl ⟨by rfl, ?_⟩, fun _ => rfl⟩ ?_
            rotate_left
            · (intro w; go_simp) <;> with_reducible rfl
            refine wpAnyIn_ready (rs := [9]) (by kernel_rfl) (by simp) ?_
            refine AllReadyIn.cons rfl (fun K hK => ?_) ?_
            · go_simp
              refine hK _ _ ?_
              clear hK K
              refine wpAnyIn_done (by kernel_rfl) ?_ _
              exact ⟨rfl, rfl⟩
            exact AllReadyIn.nil
          exact AllReadyIn.nil
        refine AllReadyIn.cons rfl (fun K hK => ?_) ?_
        · go_simp
          refine hK _ _ ?_
          clear hK K
          refine wpAnyIn_take (i := 6) (v := ?_) rfl rfl (by kernel_rfl) (by kernel_rfl) (by kernel_rfl) (fun _ _ _ h => h) ⟨Or.inl ⟨by rfl, ?_⟩, fun _ => rfl⟩ ?_
          rotate_left
          · (intro w; go_simp) <;> with_reducible rfl
          refine wpAnyIn_ready (rs := [1]) (by kernel_rfl) (by simp) ?_
          refine AllReadyIn.cons rfl (fun K hK => ?_) ?_
          · go_simp
            refine hK _ _ ?_
            clear hK K
            refine wpAnyIn_take (i := 7) (v := ?_) rfl rfl (by kernel_rfl) (by kernel_rfl) (by kernel_rfl) (fun _ _ _ h => h) ⟨Or.inl ⟨by rfl, ?_⟩, fun _ => rfl⟩ ?_
            rotate_left
            · (intro w; go_simp) <;> with_reducible rfl
            refine wpAnyIn_take (i := 8) (v := ?_) rfl rfl (by kernel_rfl) (by kernel_rfl) (by kernel_rfl) (fun _ _ _ h => h) ⟨Or.inl ⟨by rfl, ?_⟩, fun _ => rfl⟩ ?_
            rotate_left
            · (intro w; go_simp) <;> with_reducible rfl
            refine wpAnyIn_ready (rs := [9]) (by kernel_rfl) (by simp) ?_
            refine AllReadyIn.cons rfl (fun K hK => ?_) ?_
            · go_simp
              refine hK _ _ ?_
              clear hK K
              refine wpAnyIn_done (by kernel_rfl) ?_ _
              exact ⟨rfl, rfl⟩
            exact AllReadyIn.nil
          exact AllReadyIn.nil
        exact AllReadyIn.nil
      refine AllReadyIn.cons rfl (fun K hK => ?_) ?_
      · go_simp
        refine hK _ _ ?_
        clear hK K
        refine wpAnyIn_ready (rs := [0, 5]) (by kernel_rfl) (by simp) ?_
        refine AllReadyIn.cons rfl (fun K hK => ?_) ?_
        · go_simp
          refine hK _ _ ?_
          clear hK K
          refine wpAnyIn_ready (rs := [5]) (by kernel_rfl) (by simp) ?_
          refine AllReadyIn.cons rfl (fun K hK => ?_) ?_
          · go_simp
            refine hK _ _ ?_
            clear hK K
            refine wpAnyIn_take (i := 6) (v := ?_) rfl rfl (by kernel_rfl) (by kernel_rfl) (by kernel_rfl) (fun _ _ _ h => h) ⟨Or.inl ⟨by rfl, ?_⟩, fun _ => rfl⟩ ?_
            rotate_left
            · (intro w; go_simp) <;> with_reducible rfl
            refine wpAnyIn_take (i := 7) (v := ?_) rfl rfl (by kernel_rfl) (by kernel_rfl) (by kernel_rfl) (fun _ _ _ h => h) ⟨Or.inl ⟨by rfl, ?_⟩, fun _ => rfl⟩ ?_
            rotate_left
            · (intro w; go_simp) <;> with_reducible rfl
            refine wpAnyIn_take (i := 8) (v := ?_) rfl rfl (by kernel_rfl) (by kernel_rfl) (by kernel_rfl) (fun _ _ _ h => h) ⟨Or.inl ⟨by rfl, ?_⟩, fun _ => rfl⟩ ?_
            rotate_left
            · (intro w; go_simp) <;> with_reducible rfl
            refine wpAnyIn_ready (rs := [9]) (by kernel_rfl) (by simp) ?_
            refine AllReadyIn.cons rfl (fun K hK => ?_) ?_
            · go_simp
              refine hK _ _ ?_
              clear hK K
              refine wpAnyIn_done (by kernel_rfl) ?_ _
              exact ⟨rfl, rfl⟩
            exact AllReadyIn.nil
          exact AllReadyIn.nil
        refine AllReadyIn.cons rfl (fun K hK => ?_) ?_
        · go_simp
          refine hK _ _ ?_
          clear hK K
          refine wpAnyIn_take (i := 6) (v := ?_) rfl rfl (by kernel_rfl) (by kernel_rfl) (by kernel_rfl) (fun _ _ _ h => h) ⟨Or.inl ⟨by rfl, ?_⟩, fun _ => rfl⟩ ?_
          rotate_left
          · (intro w; go_simp) <;> with_reducible rfl
          refine wpAnyIn_take (i := 7) (v := ?_) rfl rfl (by kernel_rfl) (by kernel_rfl) (by kernel_rfl) (fun _ _ _ h => h) ⟨Or.inl ⟨by rfl, ?_⟩, fun _ => rfl⟩ ?_
          rotate_left
          · (intro w; go_simp) <;> with_reducible rfl
          refine wpAnyIn_ready (rs := [0]) (by kernel_rfl) (by simp) ?_
          refine AllReadyIn.cons rfl (fun K hK => ?_) ?_
          · go_simp
            refine hK _ _ ?_
            clear hK K
            refine wpAnyIn_take (i := 8) (v := ?_) rfl rfl (by kernel_rfl) (by kernel_rfl) (by kernel_rfl) (fun _ _ _ h => h) ⟨Or.inl ⟨by rfl, ?_⟩, fun _ => rfl⟩ ?_
            rotate_left
            · (intro w; go_simp) <;> with_reducible rfl
            refine wpAnyIn_ready (rs := [9]) (by kernel_rfl) (by simp) ?_
            refine AllReadyIn.cons rfl (fun K hK => ?_) ?_
            · go_simp
              refine hK _ _ ?_
              clear hK K
              refine wpAnyIn_done (by kernel_rfl) ?_ _
              exact ⟨rfl, rfl⟩
            exact AllReadyIn.nil
          exact AllReadyIn.nil
        exact AllReadyIn.nil
      refine AllReadyIn.cons rfl (fun K hK => ?_) ?_
      · go_simp
        refine hK _ _ ?_
        clear hK K
        refine wpAnyIn_take (i := 6) (v := ?_) rfl rfl (by kernel_rfl) (by kernel_rfl) (by kernel_rfl) (fun _ _ _ h => h) ⟨Or.inl ⟨by rfl, ?_⟩, fun _ => rfl⟩ ?_
        rotate_left
        · (intro w; go_simp) <;> with_reducible rfl
        refine wpAnyIn_ready (rs := [0, 1]) (by kernel_rfl) (by simp) ?_
        refine AllReadyIn.cons rfl (fun K hK => ?_) ?_
        · go_simp
          refine hK _ _ ?_
          clear hK K
          refine wpAnyIn_ready (rs := [1]) (by kernel_rfl) (by simp) ?_
          refine AllReadyIn.cons rfl (fun K hK => ?_) ?_
          · go_simp
            refine hK _ _ ?_
            clear hK K
            refine wpAnyIn_take (i := 7) (v := ?_) rfl rfl (by kernel_rfl) (by kernel_rfl) (by kernel_rfl) (fun _ _ _ h => h) ⟨Or.inl ⟨by rfl, ?_⟩, fun _ => rfl⟩ ?_
            rotate_left
            · (intro w; go_simp) <;> with_reducible rfl
            refine wpAnyIn_take (i := 8) (v := ?_) rfl rfl (by kernel_rfl) (by kernel_rfl) (by kernel_rfl) (fun _ _ _ h => h) ⟨Or.inl ⟨by rfl, ?_⟩, fun _ => rfl⟩ ?_
            rotate_left
            · (intro w; go_simp) <;> with_reducible rfl
            refine wpAnyIn_ready (rs := [9]) (by kernel_rfl) (by simp) ?_
            refine AllReadyIn.cons rfl (fun K hK => ?_) ?_
            · go_simp
              refine hK _ _ ?_
              clear hK K
              refine wpAnyIn_done (by kernel_rfl) ?_ _
              exact ⟨rfl, rfl⟩
            exact AllReadyIn.nil
          exact AllReadyIn.nil
        refine AllReadyIn.cons rfl (fun K hK => ?_) ?_
        · go_simp
          refine hK _ _ ?_
          clear hK K
          refine wpAnyIn_take (i := 7) (v := ?_) rfl rfl (by kernel_rfl) (by kernel_rfl) (by kernel_rfl) (fun _ _ _ h => h) ⟨Or.inl ⟨by rfl, ?_⟩, fun _ => rfl⟩ ?_
          rotate_left
          · (intro w; go_simp) <;> with_reducible rfl
          refine wpAnyIn_ready (rs := [0]) (by kernel_rfl) (by simp) ?_
          refine AllReadyIn.cons rfl (fun K hK => ?_) ?_
          · go_simp
            refine hK _ _ ?_
            clear hK K
            refine wpAnyIn_take (i := 8) (v := ?_) rfl rfl (by kernel_rfl) (by kernel_rfl) (by kernel_rfl) (fun _ _ _ h => h) ⟨Or.inl ⟨by rfl, ?_⟩, fun _ => rfl⟩ ?_
            rotate_left
            · (intro w; go_simp) <;> with_reducible rfl
            refine wpAnyIn_ready (rs := [9]) (by kernel_rfl) (by simp) ?_
            refine AllReadyIn.cons rfl (fun K hK => ?_) ?_
            · go_simp
              refine hK _ _ ?_
              clear hK K
              refine wpAnyIn_done (by kernel_rfl) ?_ _
              exact ⟨rfl, rfl⟩
            exact AllReadyIn.nil
          exact AllReadyIn.nil
        exact AllReadyIn.nil
      exact AllReadyIn.nil
    case go =>
      gi_wp2
      obtain ⟨y1, y2, y3, y4, y5, y6⟩ := HY5.out
      have hBU : But (fun k => (k = bp ∨ k = bk) ∨ k = bl ∨ k = bt ∨ k = bq) W5 (W6.setCell ⟨bq, 0, none⟩ (.int .i64 ((q : Int) + (x : Int) + (n : Int)))) := by
        rw [← hW6]
        exact ((But.of_below (Below.refl _ _).drew).trans (But.setCell _ (a := ⟨bt, 0, none⟩) _ (.inr (.inr (.inl rfl))))).trans (But.setCell _ (a := ⟨bq, 0, none⟩) _ (.inr (.inr (.inr rfl))))
      have hKF : KeepsFrom W0.heap.size W5 (W6.setCell ⟨bq, 0, none⟩ (.int .i64 ((q : Int) + (x : Int) + (n : Int)))) := by
        rw [← hW6]
        exact ((keepsFrom_of_below (Below.refl _ _).drew).trans ((KeepsOthers.setCell _ _ _).from _)).trans ((KeepsOthers.setCell _ _ _).from _)
      have hSS : Stay (fun k => (k = bp ∨ k = bk) ∨ L ≤ k) W5 (W6.setCell ⟨bq, 0, none⟩ (.int .i64 ((q : Int) + (x : Int) + (n : Int)))) := by
        rw [← hW6]
        exact ((Stay.of_below (Below.refl _ _).drew).trans (Stay.setCell _ (a := ⟨bt, 0, none⟩) _ (by dsimp only; omega))).trans (Stay.setCell _ (a := ⟨bq, 0, none⟩) _ (by dsimp only; omega))
      have hOW : (W6.setCell ⟨bq, 0, none⟩ (.int .i64 ((q : Int) + (x : Int) + (n : Int)))).ownsRow W0.heap.size 71 3 (.slice ad' (i + 1) cap') (i + 1) (flat ((List.range (i + 1)).map (pQ s p e W dp lz a b c))) := hBU.ownsRow HO5.out (fun k hk => by omega)
      have hB1 : Blk (W6.setCell ⟨bq, 0, none⟩ (.int .i64 ((q : Int) + (x : Int) + (n : Int)))) bl 58 [.slice ad' (i + 1) cap'] := by
        rw [← hW6]
        exact ((y1.later (Below.refl _ _).drew).other (by dsimp only; omega) _).other (by dsimp only; omega) _
      refine ⟨hKF5.trans hKF, ⟨ad', cap', hB1, ?_, y3.but hBU (by first | omega | (dsimp only; omega) | (simp; done) | (simp; omega)), ?_, y5.but hBU (by first | omega | (dsimp only; omega) | (simp; done) | (simp; omega)), hBU.cell (by first | omega | (dsimp only; omega) | (simp; done) | (simp; omega)) y6, hOW, fun g hg => ⟨own_ltG hOW hg, by omega⟩, fun _ => Nat.le_refl _, hBU5.trans hBU⟩, hST5.trans hSS⟩
      · rw [HT2.out, ← hW6]
        exact ((y2.later (Below.refl _ _).drew).set 0 (.string T2)).other (by dsimp only; omega) _
      · rw [HNX.out, ← hW6]
        exact ((y4.later (Below.refl _ _).drew).other (by dsimp only; omega) _).set 0 _
  case hiter =>
    intro l' J Jx X hb hst hJI _ hr hj
    refine (seqs_iter s e lz W dp (p, a, b, c) N bw bp bk l' (fun i hi => (HOKK.out i hi).1) HIN.out HOUT.out hz (by omega) (by omega) (by omega) J Jx X hst (fun i L X h => (hJI i L X h).xw) hr hj (HK0.out.later hb) (HXP.out.later hb)).mono ?_
    exact fun en W' h => h
  case hstop => exact fun D co X hD h => h.elim
  case hdone =>
    rintro D L X hD ⟨ad, cap, y1, y2, y3, y4, y5, y6, y7, y8, y8b, y9⟩ hF hdf
    have hlsN := HLS.out N (by rw [HN.out]; exact Nat.le_refl _)
    obtain ⟨o1, o2, o3, o4⟩ := (HOKK.out N (Nat.le_refl _)).1
    obtain ⟨q, hq⟩ : ∃ q, (pS s p e W dp lz a b c N).1 = q := ⟨_, rfl⟩
    obtain ⟨h1, hh1⟩ : ∃ h, (pS s p e W dp lz a b c N).2.1 = h := ⟨_, rfl⟩
    obtain ⟨h2, hh2⟩ : ∃ h, (pS s p e W dp lz a b c N).2.2.1 = h := ⟨_, rfl⟩
    obtain ⟨h3, hh3⟩ : ∃ h, (pS s p e W dp lz a b c N).2.2.2 = h := ⟨_, rfl⟩
    rw [hq] at y4 o1 hlsN
    rw [hh1, hh2, hh3] at hF
    have hres : pblock s p e W dp lz a b c = ((List.range N).map (pQ s p e W dp lz a b c), pLits s p e W dp lz a b c N ++ s.extract q e, (h1, h2, h3)) := by
      unfold pblock
      rw [HN.out, hq, ← hh1, ← hh2, ← hh3]
    have HRES := Lib.hid hres
    have HQS := Lib.hid (⟨hq, hh1, hh2, hh3⟩ : (pS s p e W dp lz a b c N).1 = q ∧ _ ∧ _ ∧ _)
    have hcat : ∀ X, (Op.stringOp .add (pLits s p e W dp lz a b c N) (s.extract q e)).run Try.prog X = .ok (.string (pLits s p e W dp lz a b c N ++ s.extract q e)) X := fun X => run_string_add_sum X _ _ (by rw [ByteArray.size_extract]; omega)
    generalize pLits s p e W dp lz a b c N = T1 at y2 hcat HRES
    generalize T1 ++ s.extract q e = T2 at hcat HRES
    clear hlsN hres hq hh1 hh2 hh3 o2 o3 o4
    have HY7 := Lib.hid y7
    have HY9 := Lib.hid y9
    have hs9 := y9.size
    have HY := Lib.hid (⟨y1, y2, y5, hF⟩ : _ ∧ _ ∧ _ ∧ _)
    have c1 := y1.cell 0
    have c2 := y2.cell 0
    have c3 := y3.cell 0
    have c4 := y4.cell 0
    have d0 := hF.cell 0
    have d1 := hF.cell 1
    have d2 := hF.cell 2
    simp at c1 c2 c3 c4 d0 d1 d2
    have f1 := y1.frozen 0
    have f2 := y2.frozen 0
    have f50 := y5.frozen 0
    have f51 := y5.frozen 1
    have f52 := y5.frozen 2
    have l1 := y1.lt
    have l2 := y2.lt
    have l5 := y5.lt
    have e50 := y5.cell 0
    have e51 := y5.cell 1
    have e52 := y5.cell 2
    simp at e50 e51 e52
    have i0 : (0 : Int) ≤ (q : Int) := by omega
    have i1 : (q : Int) ≤ (e : Int) := by omega
    have i2 : (e : Int) ≤ (s.size : Int) := by omega
    have n9 : ¬ bl = bt := by omega
    have n10 : ¬ bt = bl := by omega
    have n11 : ¬ bl = bn := by omega
    have n12 : ¬ bn = bl := by omega
    have n13 : ¬ bt = bn := by omega
    have n14 : ¬ bn = bt := by omega
    have hmx : Try.prog.follows .mixedOrders = true := by kernel_rfl
    clear y1 y2 y3 y4 y5 y6 y7 y8 y8b y9 hF
    all_goals go_wp2
    apply wp_det
    case det =>
      go_region
      all_goals exact ⟨rfl, rfl⟩
    case go =>
      go_wp2
      obtain ⟨W7, hW7⟩ : ∃ W7, (((((X.setCell ⟨bl, 0, none⟩ (.slice ad N cap)).setCell ⟨bt, 0, none⟩ (.string T2)).setCell ⟨bn, 0, none⟩ (.int .i64 h1)).setCell ⟨bn, 1, none⟩ (.int .i64 h2)).setCell ⟨bn, 2, none⟩ (.int .i64 h3)).drew = W7 := ⟨_, rfl⟩
      have hdf7 : W7.heap[D]? = some (.deferred (some [])) := by
        rw [← hW7]
        exact drew_deferred (setCell_deferred (setCell_deferred (setCell_deferred (setCell_deferred (setCell_deferred hdf _ _) _ _) _ _) _ _) _ _)
      rw [hW7]
      refine ⟨by simp, .inl ⟨_, _, rfl, run_takeDeferred hdf7, ?_⟩⟩
      obtain ⟨y1, y2, y5, y6⟩ := HY.out
      have hbn7 : Blk W7 bn 23 [.int .i64 h1, .int .i64 h2, .int .i64 h3] := by
        rw [← hW7]
        exact (((((y5.other (a := ⟨bl, 0, none⟩) (by dsimp only; omega) _).other (a := ⟨bt, 0, none⟩) (by dsimp only; omega) _).set 0 _).set 1 _).set 2 _).later (Below.refl _ _).drew
      have hbl7 : Blk W7 bl 58 [.slice ad N cap] := by
        rw [← hW7]
        exact (((((y1.set 0 _).other (by dsimp only; omega) _).other (by dsimp only; omega) _).other (by dsimp only; omega) _).other (by dsimp only; omega) _).later (Below.refl _ _).drew
      have hbt7 : Blk W7 bt 9 [.string T2] := by
        rw [← hW7]
        exact (((((y2.other (a := ⟨bl, 0, none⟩) (by dsimp only; omega) _).set 0 _).other (by dsimp only; omega) _).other (by dsimp only; omega) _).other (by dsimp only; omega) _).later (Below.refl _ _).drew
      have hK7 : Keep 0 W7 (W7.putObj D (.deferred none)) := Keep.putObj (B := 0) (.deferred none) (by omega) hdf7 rfl
      have k1 := (hbl7.keep hK7).cell 0
      have k2 := (hbt7.keep hK7).cell 0
      have k3 := (hbn7.keep hK7).cell 0
      have k4 := (hbn7.keep hK7).cell 1
      have k5 := (hbn7.keep hK7).cell 2
      simp at k1 k2 k3 k4 k5
      have hBU7 : But (fun k => (k = bp ∨ k = bk) ∨ k = bl ∨ k = bt ∨ k = bq ∨ k = bn) W0 W7 := by
        rw [← hW7]
        exact ((((((HY9.out.mono (fun k hk => by omega)).trans (But.setCell _ (a := ⟨bl, 0, none⟩) _ (by simp))).trans (But.setCell _ (a := ⟨bt, 0, none⟩) _ (by simp))).trans (But.setCell _ (a := ⟨bn, 0, none⟩) _ (by simp))).trans (But.setCell _ (a := ⟨bn, 1, none⟩) _ (by simp))).trans (But.setCell _ (a := ⟨bn, 2, none⟩) _ (by simp))).trans (But.of_below (Below.refl _ _).drew)
      have hln : ((List.range N).map (pQ s p e W dp lz a b c)).length = N := by simp
      have hO7 : W7.ownsRow W0.heap.size 71 3 (.slice ad N cap) N (flat ((List.range N).map (pQ s p e W dp lz a b c))) := by
        rw [← hW7]
        refine But.ownsRow (S := fun k => (k = bp ∨ k = bk) ∨ k = bl ∨ k = bt ∨ k = bq ∨ k = bn) ?_ HY7.out (fun k hk => by omega)
        exact (((((But.setCell _ (a := ⟨bl, 0, none⟩) _ (by simp)).trans (But.setCell _ (a := ⟨bt, 0, none⟩) _ (by simp))).trans (But.setCell _ (a := ⟨bn, 0, none⟩) _ (by simp))).trans (But.setCell _ (a := ⟨bn, 1, none⟩) _ (by simp))).trans (But.setCell _ (a := ⟨bn, 2, none⟩) _ (by simp))).trans (But.of_below (Below.refl _ _).drew)
      clear hcat c1 c2 c3 c4 d0 d1 d2 f1 f2 f50 f51 f52 e50 e51 e52 hW7
      refine ⟨.tuple #[.slice ad N cap, .string T2, .agg #[.int .i64 h1, .int .i64 h2, .int .i64 h3], .int .i64 0], by simp [results, Try.results36, go_sem, *], ?_⟩
      rw [HRES.out]
      refine ⟨ad, cap, ?_, ?_, ?_, ?_⟩
      · dsimp only; rw [hln]
      · dsimp only; rw [hln]; intro g hg; have := own_base3 HY7.out g hg; have := HB0.out.size; have := HBS.out; omega
      · exact (RowQ.of_own hO7 hln.symm).keep hK7
      · rw [HBS.out]
        exact below_putObj (hBU7.below HB0.out (fun k hk => by omega) (by have := HB0.out.size; omega)) (by have := HB0.out.size; omega) _
end Go.Proofs.Ytammacofhdbgcaa
