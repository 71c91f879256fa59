/-
  Block and Score, whole: of the program and of the reference.
-/
import Derived.Test.YtammacofhdbgcaaRows
import Derived.Test.YtammacofhdbgcaaParseBlock
import Derived.Test.YtammacofhdbgcaaParseRBlock
import Derived.Test.YtammacofhdbgcaaSeqCheck
import Derived.Test.YtammacofhdbgcaaGBase
import Derived.Deep.Light
import Derived.Shelf.Abstract
import Derived.Shelf.RegionOpen
import Derived.OwnWalkIn
import Derived.TacticsInMore
import Derived.LoopNIn
import Derived.LoopIn
import Derived.Outline
import Derived.IntWalk
namespace Go.Proofs.Ytammacofhdbgcaa
open Go.RowKit
set_option linter.unusedSimpArgs false
set_option linter.unusedVariables false
open Go.Shelf
attribute [local go_sem] eq32 Oper.semAt_some

/-- The boxes of Block, with any place. -/
def BBox2 (H : Nat) (s : ByteArray) (p : Int) (L W J O a b c : Int) (sy ch : Bool) (w : World) : Prop := Blk w (H) 9 [.string s] ∧ Blk w (H + 1) 3 [.int .i64 p] ∧ Blk w (H + 1 + 1) 57 [.int .i64 L, .int .i64 W, .int .i64 J, .int .i64 O, .bool sy, .bool ch] ∧ Blk w (H + 1 + 1 + 1) 23 [.int .i64 a, .int .i64 b, .int .i64 c] ∧ Blk w (H + 1 + 1 + 1 + 1) 58 [.slice none 0 0] ∧ Blk w (H + 1 + 1 + 1 + 1 + 1) 9 [.string { data := #[] }] ∧ Blk w (H + 1 + 1 + 1 + 1 + 1 + 1) 23 [.int .i64 0, .int .i64 0, .int .i64 0]
theorem BBox2.later {H : Nat} {p : Int} {s : ByteArray} {L W J O a b c : Int} {sy ch : Bool} {w w' : World} (h : BBox2 H s p L W J O a b c sy ch w) (hb : Below w.heap.size w w') : BBox2 H s p L W J O a b c sy ch w' :=
  ⟨h.1.later hb, h.2.1.later hb, h.2.2.1.later hb, h.2.2.2.1.later hb, h.2.2.2.2.1.later hb, h.2.2.2.2.2.1.later hb, h.2.2.2.2.2.2.later hb⟩
set_option maxRecDepth 100000 in
set_option maxHeartbeats 8000000 in
theorem block_2 (s : ByteArray) (p e L W J O a b c : Int) (sy ch : Bool) (w : World) (hl : s.size ≤ 9223372036854775807) (h : Pask s.size p e L W J O a b c ≠ 0) :
    Calls Try.prog 36 #[.string s, .int .i64 p, .int .i64 e, .agg #[.int .i64 L, .int .i64 W, .int .i64 J, .int .i64 O, .bool sy, .bool ch], .agg #[.int .i64 a, .int .i64 b, .int .i64 c]] w (BlkPost (([], ⟨#[]⟩, (0, 0, 0)), Pask s.size p e L W J O a b c) w) := by
  have qC := fun w => checked_p24 s p e L W J O a b c sy ch w hl
  generalize Pask s.size p e L W J O a b c = E at qC h ⊢
  have h3 : (E != 0) = true := by simpa using h
  have h4 : (E == 0) = false := by simpa using h
  clear h
  refine calls_of_marks Try.func36 rfl ?_
  simp only [Try.ntmps36, List.size_toArray, List.length_cons, List.length_nil, Nat.reduceAdd, Nat.reduceSub, Array.replicate_succ, Array.replicate_zero, List.push_toArray, List.append_toArray, List.nil_append, List.cons_append]
  go_wp2_with (go_at_call 67; refine (qC _).mono ?_; rintro en w1 ⟨rfl, hb⟩; have hN1 : BBox2 w.heap.size s p L W J O a b c sy ch w1 := BBox2.later ⟨(Blk.alloc (Blk.alloc (Blk.alloc (Blk.alloc (Blk.alloc (Blk.alloc (by simpa using Blk.new w 9 #[.string s]) _) _) _) _) _) _), (Blk.alloc (Blk.alloc (Blk.alloc (Blk.alloc (Blk.alloc (by simpa using Blk.new (w.alloc (.cells #[.string s] 9)) 3 #[.int .i64 p]) _) _) _) _) _), (Blk.alloc (Blk.alloc (Blk.alloc (Blk.alloc (by simpa using Blk.new ((w.alloc (.cells #[.string s] 9)).alloc (.cells #[.int .i64 p] 3)) 57 #[.int .i64 L, .int .i64 W, .int .i64 J, .int .i64 O, .bool sy, .bool ch]) _) _) _) _), (Blk.alloc (Blk.alloc (Blk.alloc (by simpa using Blk.new (((w.alloc (.cells #[.string s] 9)).alloc (.cells #[.int .i64 p] 3)).alloc (.cells #[.int .i64 L, .int .i64 W, .int .i64 J, .int .i64 O, .bool sy, .bool ch] 57)) 23 #[.int .i64 a, .int .i64 b, .int .i64 c]) _) _) _), (Blk.alloc (Blk.alloc (by simpa using Blk.new ((((w.alloc (.cells #[.string s] 9)).alloc (.cells #[.int .i64 p] 3)).alloc (.cells #[.int .i64 L, .int .i64 W, .int .i64 J, .int .i64 O, .bool sy, .bool ch] 57)).alloc (.cells #[.int .i64 a, .int .i64 b, .int .i64 c] 23)) 58 #[.slice none 0 0]) _) _), (Blk.alloc (by simpa using Blk.new (((((w.alloc (.cells #[.string s] 9)).alloc (.cells #[.int .i64 p] 3)).alloc (.cells #[.int .i64 L, .int .i64 W, .int .i64 J, .int .i64 O, .bool sy, .bool ch] 57)).alloc (.cells #[.int .i64 a, .int .i64 b, .int .i64 c] 23)).alloc (.cells #[.slice none 0 0] 58)) 9 #[.string { data := #[] }]) _), (by simpa using Blk.new ((((((w.alloc (.cells #[.string s] 9)).alloc (.cells #[.int .i64 p] 3)).alloc (.cells #[.int .i64 L, .int .i64 W, .int .i64 J, .int .i64 O, .bool sy, .bool ch] 57)).alloc (.cells #[.int .i64 a, .int .i64 b, .int .i64 c] 23)).alloc (.cells #[.slice none 0 0] 58)).alloc (.cells #[.string { data := #[] }] 9)) 23 #[.int .i64 0, .int .i64 0, .int .i64 0])⟩ hb; have hs1 := hb.size; (simp at hs1); have hN1x := hN1; have hq1 := hN1; obtain ⟨x01, x11, x21, x31, x41, x51, x61⟩ := hq1; have c001 : w1.cell? ⟨w.heap.size, 0, none⟩ = some (.string s) := x01.cell 0; have l01 : w.heap.size < w1.heap.size := x01.lt; have c101 : w1.cell? ⟨w.heap.size + 1, 0, none⟩ = some (.int .i64 p) := x11.cell 0; have l11 : w.heap.size + 1 < w1.heap.size := x11.lt; have c201 : w1.cell? ⟨w.heap.size + 1 + 1, 0, none⟩ = some (.int .i64 L) := x21.cell 0; have c211 : w1.cell? ⟨w.heap.size + 1 + 1, 1, none⟩ = some (.int .i64 W) := x21.cell 1; have c221 : w1.cell? ⟨w.heap.size + 1 + 1, 2, none⟩ = some (.int .i64 J) := x21.cell 2; have c231 : w1.cell? ⟨w.heap.size + 1 + 1, 3, none⟩ = some (.int .i64 O) := x21.cell 3; have c241 : w1.cell? ⟨w.heap.size + 1 + 1, 4, none⟩ = some (.bool sy) := x21.cell 4; have c251 : w1.cell? ⟨w.heap.size + 1 + 1, 5, none⟩ = some (.bool ch) := x21.cell 5; have l21 : w.heap.size + 1 + 1 < w1.heap.size := x21.lt; have c301 : w1.cell? ⟨w.heap.size + 1 + 1 + 1, 0, none⟩ = some (.int .i64 a) := x31.cell 0; have c311 : w1.cell? ⟨w.heap.size + 1 + 1 + 1, 1, none⟩ = some (.int .i64 b) := x31.cell 1; have c321 : w1.cell? ⟨w.heap.size + 1 + 1 + 1, 2, none⟩ = some (.int .i64 c) := x31.cell 2; have l31 : w.heap.size + 1 + 1 + 1 < w1.heap.size := x31.lt; have c401 : w1.cell? ⟨w.heap.size + 1 + 1 + 1 + 1, 0, none⟩ = some (.slice none 0 0) := x41.cell 0; have l41 : w.heap.size + 1 + 1 + 1 + 1 < w1.heap.size := x41.lt; have c501 : w1.cell? ⟨w.heap.size + 1 + 1 + 1 + 1 + 1, 0, none⟩ = some (.string { data := #[] }) := x51.cell 0; have l51 : w.heap.size + 1 + 1 + 1 + 1 + 1 < w1.heap.size := x51.lt; have c601 : w1.cell? ⟨w.heap.size + 1 + 1 + 1 + 1 + 1 + 1, 0, none⟩ = some (.int .i64 0) := x61.cell 0; have c611 : w1.cell? ⟨w.heap.size + 1 + 1 + 1 + 1 + 1 + 1, 1, none⟩ = some (.int .i64 0) := x61.cell 1; have c621 : w1.cell? ⟨w.heap.size + 1 + 1 + 1 + 1 + 1 + 1, 2, none⟩ = some (.int .i64 0) := x61.cell 2; have l61 : w.heap.size + 1 + 1 + 1 + 1 + 1 + 1 < w1.heap.size := x61.lt)
  have n9 : ¬ w.heap.size + 1 + 1 + 1 + 1 = w.heap.size + 1 + 1 + 1 + 1 + 1 + 1 := by omega
  clear c001 c101 c201 c211 c221 c231 c241 c251 c301 c311 c321 hN1x
  have f40 := x41.frozen 0
  have f50 := x51.frozen 0
  have f60 := x61.frozen 0
  have f61 := x61.frozen 1
  have f62 := x61.frozen 2
  have X41 := Lib.hid x41
  have X51 := Lib.hid x51
  have X61 := Lib.hid x61
  have B1 : Below w.heap.size w w1 := by
    repeat' (first | exact Below.refl _ _ | refine Below.drew ?_ | refine below_drewN ?_ _ | refine Below.alloc ?_ (by first | omega | (simp <;> omega)) _ | refine Below.setCell ?_ (by first | omega | (simp <;> omega)) _ | refine Below.trans ?_ (Below.mono (by assumption) (by first | omega | (simp <;> omega))))
  clear x01 x11 x21 x31 x41 x51 x61 hb
  apply wp_det
  case det =>
    go_region
    all_goals exact ⟨rfl, rfl⟩
  case go =>
    go_wp2
    go_light
    refine ⟨.tuple #[.slice none 0 0, .string ⟨#[]⟩, .agg #[.int .i64 0, .int .i64 0, .int .i64 0], .int .i64 E], by simp [results, Try.results36, go_sem, *], ?_⟩
    refine blkPost_err E ?_
    repeat' (first | exact Below.refl _ _ | refine Below.drew ?_ | refine below_drewN ?_ _ | refine Below.alloc ?_ (by first | omega | (simp <;> omega)) _ | refine Below.setCell ?_ (by first | omega | (simp <;> omega)) _ | refine Below.trans ?_ (Below.mono (by assumption) (by first | omega | (simp <;> omega))))
/-- What a block gives, and its error. -/
def Pblk (s : ByteArray) (p e L W J O a b c : Int) : (List (Int × Int × Int) × ByteArray × (Int × Int × Int)) × Int :=
  if Pask s.size p e L W J O a b c ≠ 0 then (([], ⟨#[]⟩, (0, 0, 0)), Pask s.size p e L W J O a b c) else (pblock s p.toNat e.toNat W (depthT L) (lazyT L).toNat a b c, 0)
theorem lazy_nat (L : Int) : ∃ n : Nat, lazyT L = (n : Int) ∧ n ≤ 2 := by
  unfold lazyT
  split
  · exact ⟨0, rfl, by omega⟩
  · split
    · exact ⟨1, rfl, by omega⟩
    · exact ⟨2, rfl, by omega⟩
theorem block_p (s : ByteArray) (p e L W J O a b c : Int) (sy ch : Bool) (w : World) (hl : s.size ≤ 9223372036854775807) :
    Calls Try.prog 36 #[.string s, .int .i64 p, .int .i64 e, .agg #[.int .i64 L, .int .i64 W, .int .i64 J, .int .i64 O, .bool sy, .bool ch], .agg #[.int .i64 a, .int .i64 b, .int .i64 c]] w (BlkPost (Pblk s p e L W J O a b c) w) := by
  unfold Pblk
  by_cases h1 : Pask s.size p e L W J O a b c = 0
  · rw [if_neg (by simpa using h1)]
    obtain ⟨o1, o2, o3, o4, o5, o6, o7⟩ := pask_ok h1
    obtain ⟨p, rfl⟩ : ∃ n : Nat, p = (n : Int) := ⟨p.toNat, by omega⟩
    obtain ⟨e, rfl⟩ : ∃ n : Nat, e = (n : Int) := ⟨e.toNat, by omega⟩
    obtain ⟨lz, hlz, hz⟩ := lazy_nat L
    rw [show (lazyT L).toNat = lz by omega, Int.toNat_natCast, Int.toNat_natCast]
    exact block_1 s p e lz L W J O a b c sy ch w o2 o1 (by omega) (by omega) o7 hlz hz h1
  · rw [if_pos h1]
    exact block_2 s p e L W J O a b c sy ch w hl h1
theorem rblock_p (s : ByteArray) (p e L W J O a b c : Int) (sy ch : Bool) (w : World) (hl : s.size ≤ 9223372036854775807) :
    Calls Try.prog 37 #[.string s, .int .i64 p, .int .i64 e, .agg #[.int .i64 L, .int .i64 W, .int .i64 J, .int .i64 O, .bool sy, .bool ch], .agg #[.int .i64 a, .int .i64 b, .int .i64 c]] w (BlkPost (Pblk s p e L W J O a b c) w) := by
  unfold Pblk
  by_cases h1 : Pask s.size p e L W J O a b c = 0
  · rw [if_neg (by simpa using h1)]
    obtain ⟨o1, o2, o3, o4, o5, o6, o7⟩ := pask_ok h1
    obtain ⟨p, rfl⟩ : ∃ n : Nat, p = (n : Int) := ⟨p.toNat, by omega⟩
    obtain ⟨e, rfl⟩ : ∃ n : Nat, e = (n : Int) := ⟨e.toNat, by omega⟩
    obtain ⟨lz, hlz, hz⟩ := lazy_nat L
    rw [show (lazyT L).toNat = lz by omega, Int.toNat_natCast, Int.toNat_natCast]
    exact rblock_1 s p e lz L W J O a b c sy ch w o2 o1 (by omega) (by omega) o7 hlz hz h1
  · rw [if_pos h1]
    exact rblock_2 s p e L W J O a b c sy ch w hl h1

/-- The sum of the gains of so many sequences. -/
def ssum (qs : List (Int × Int × Int)) : Nat → Int
  | 0 => 0
  | k + 1 => ssum qs k + mgain (qs.getD k (0, 0, 0)).2.1 (qs.getD k (0, 0, 0)).2.2
/-- The score of sequences, and its error. -/
def Pscore (qs : List (Int × Int × Int)) : Int × Int := if schk qs ≠ 0 then (0, schk qs) else (ssum qs qs.length, 0)
theorem mgain_bd {ma of : Int} (h1 : 3 ≤ ma) (h2 : ma ≤ 131074) (h3 : 1 ≤ of) (h4 : of ≤ 2147483651) : -100 ≤ mgain ma of ∧ mgain ma of ≤ 524400 := by
  obtain ⟨n, rfl⟩ : ∃ n : Nat, of = (n : Int) := ⟨of.toNat, by omega⟩
  have := hi_bd n (by omega)
  unfold mgain
  rw [Int.toNat_natCast]
  omega
theorem ssum_bd {qs : List (Int × Int × Int)} (h : schk qs = 0) : ∀ k, k ≤ qs.length → -100 * (k : Int) ≤ ssum qs k ∧ ssum qs k ≤ 524400 * (k : Int) := by
  intro k
  induction k with
  | zero => intro _; simp [ssum]
  | succ k ih =>
    intro hk
    obtain ⟨i1, i2⟩ := ih (by omega)
    obtain ⟨⟨li, ma, of⟩, hx⟩ : ∃ q, qs.getD k (0, 0, 0) = q := ⟨_, rfl⟩
    obtain ⟨g1, g2, g3, g4, g5, g6⟩ := (schk_get h).2 k (by omega) _ _ _ hx
    have := mgain_bd g3 g4 g5 g6
    unfold ssum
    rw [hx]
    dsimp only
    constructor <;> omega
set_option maxRecDepth 100000 in
set_option maxHeartbeats 4000000 in
theorem score_2 (a : Option Addr) (qs : List (Int × Int × Int)) (cap : Nat) (w : World) (ha : RowQ w a qs) (hl : qs.length ≤ 9223372036854775807) (h : schk qs ≠ 0) :
    Calls Try.prog 47 #[.slice a qs.length cap] w fun e w' => e = .returned (.tuple #[.int .i64 0, .int .i64 (schk qs)]) ∧ Below w.heap.size w w' := by
  have qC := fun w h => scheck_p a qs cap w h hl
  generalize schk qs = E at qC h ⊢
  have h3 : (E != 0) = true := by simpa using h
  have h4 : (E == 0) = false := by simpa using h
  clear h
  go_enter Try.func47, Try.ntmps47
  go_wp2_with ((go_at_call 78; refine (qC _ ha).mono ?_; rintro e w1 ⟨rfl, hb⟩; have hsz := hb.size; (try simp at hsz); (first | (have hbl := blater2 HA (by first | exact Nat.le_refl _ | (simp; done) | (simp; omega)) hb; obtain ⟨hcc, hff, HA, hne, hne'⟩ := hbl) | (obtain ⟨hcc, hff, HA, hne, hne'⟩ := blater1 hb)); (try simp only [World.size_alloc, World.size_setCell] at HA)))
  repeat' (first | (go_region <;> go_wp2_with ((go_at_call 78; refine (qC _ ha).mono ?_; rintro e w1 ⟨rfl, hb⟩; have hsz := hb.size; (try simp at hsz); (first | (have hbl := blater2 HA (by first | exact Nat.le_refl _ | (simp; done) | (simp; omega)) hb; obtain ⟨hcc, hff, HA, hne, hne'⟩ := hbl) | (obtain ⟨hcc, hff, HA, hne, hne'⟩ := blater1 hb)); (try simp only [World.size_alloc, World.size_setCell] at HA)))))
  all_goals go_light
  all_goals (try simp only [beq_iff_eq, beq_eq_false_iff_ne, bne_iff_ne, bne_eq_false_iff_eq, ne_eq] at *)
  all_goals
    refine bodyPost_ret (v := .tuple #[.int .i64 0, .int .i64 E]) (by simp [results, Try.results47, go_sem, *]) rfl ⟨rfl, ?_⟩
    repeat' (first | exact Below.refl _ _ | refine Below.drew ?_ | refine below_drewN ?_ _ | refine Below.alloc ?_ (by first | omega | (simp <;> omega)) _ | refine Below.setCell ?_ (by first | omega | (simp <;> omega)) _ | refine Below.trans ?_ (Below.mono (by assumption) (by first | omega | (simp <;> omega))))
set_option maxRecDepth 100000 in
set_option maxHeartbeats 4000000 in
theorem rscore_2 (a : Option Addr) (qs : List (Int × Int × Int)) (cap : Nat) (w : World) (ha : RowQ w a qs) (hl : qs.length ≤ 9223372036854775807) (h : schk qs ≠ 0) :
    Calls Try.prog 48 #[.slice a qs.length cap] w fun e w' => e = .returned (.tuple #[.int .i64 0, .int .i64 (schk qs)]) ∧ Below w.heap.size w w' := by
  have qC := fun w h => rscheck_p a qs cap w h hl
  generalize schk qs = E at qC h ⊢
  have h3 : (E != 0) = true := by simpa using h
  have h4 : (E == 0) = false := by simpa using h
  clear h
  go_enter Try.func48, Try.ntmps48
  go_wp2_with ((go_at_call 75; refine (qC _ ha).mono ?_; rintro e w1 ⟨rfl, hb⟩; have hsz := hb.size; (try simp at hsz); (first | (have hbl := blater2 HA (by first | exact Nat.le_refl _ | (simp; done) | (simp; omega)) hb; obtain ⟨hcc, hff, HA, hne, hne'⟩ := hbl) | (obtain ⟨hcc, hff, HA, hne, hne'⟩ := blater1 hb)); (try simp only [World.size_alloc, World.size_setCell] at HA)))
  repeat' (first | (go_region <;> go_wp2_with ((go_at_call 75; refine (qC _ ha).mono ?_; rintro e w1 ⟨rfl, hb⟩; have hsz := hb.size; (try simp at hsz); (first | (have hbl := blater2 HA (by first | exact Nat.le_refl _ | (simp; done) | (simp; omega)) hb; obtain ⟨hcc, hff, HA, hne, hne'⟩ := hbl) | (obtain ⟨hcc, hff, HA, hne, hne'⟩ := blater1 hb)); (try simp only [World.size_alloc, World.size_setCell] at HA)))))
  all_goals go_light
  all_goals (try simp only [beq_iff_eq, beq_eq_false_iff_ne, bne_iff_ne, bne_eq_false_iff_eq, ne_eq] at *)
  all_goals
    refine bodyPost_ret (v := .tuple #[.int .i64 0, .int .i64 E]) (by simp [results, Try.results48, go_sem, *]) rfl ⟨rfl, ?_⟩
    repeat' (first | exact Below.refl _ _ | refine Below.drew ?_ | refine below_drewN ?_ _ | refine Below.alloc ?_ (by first | omega | (simp <;> omega)) _ | refine Below.setCell ?_ (by first | omega | (simp <;> omega)) _ | refine Below.trans ?_ (Below.mono (by assumption) (by first | omega | (simp <;> omega))))
set_option maxRecDepth 100000 in
set_option maxHeartbeats 4000000 in
theorem score_1 (a : Option Addr) (qs : List (Int × Int × Int)) (cap : Nat) (w : World) (ha : RowQ w a qs) (hl : qs.length ≤ 9223372036854775807) (h : schk qs = 0) :
    Calls Try.prog 47 #[.slice a qs.length cap] w fun e w' => e = .returned (.tuple #[.int .i64 (ssum qs qs.length), .int .i64 0]) ∧ Below w.heap.size w w' := by
  have qC := fun w h => scheck_p a qs cap w h hl
  rw [h] at qC
  have hbd := Lib.hid (ssum_bd h)
  have hg := Lib.hid (schk_get h)
  have hlq := (schk_get h).1
  clear h
  go_enter Try.func47, Try.ntmps47
  go_wp2_with (go_at_call 78; refine (qC _ ha).mono ?_; rintro e w1 ⟨rfl, hb1⟩)
  have hs1 := hb1.size
  have ha1 := ha.later hb1
  go_loopw [5, 17] (fun vs vi wr => ∃ (k : Nat), k ≤ qs.length ∧ vi = .int .i64 (k : Int) ∧ vs = .int .i64 (ssum qs k) ∧ Below w1.heap.size w1 wr) (fun _ i _ => qs.length - (intOf i).toNat)
  case atStart => exact ⟨0, by omega, rfl, rfl, Below.refl _ _⟩
  case round =>
    obtain ⟨k, hk, rfl, rfl, hb⟩ := hrel
    by_cases hlt : k < qs.length
    · obtain ⟨b1, o1, rfl, hb2, hc2⟩ := (ha1.later hb).at hlt
      obtain ⟨c0, c1, c2⟩ := hc2 k hlt
      obtain ⟨x1, x2⟩ := hbd.out k hk
      obtain ⟨y1, y2⟩ := hbd.out (k + 1) hlt
      have hsu : ssum qs (k + 1) = ssum qs k + mgain (qs.getD k (0, 0, 0)).2.1 (qs.getD k (0, 0, 0)).2.2 := rfl
      obtain ⟨⟨li, ma, of⟩, hx⟩ : ∃ q, qs.getD k (0, 0, 0) = q := ⟨_, rfl⟩
      obtain ⟨g1, g2, g3, g4, g5, g6⟩ := hg.out.2 k hlt li ma of hx
      rw [hx] at c0 c1 c2 hsu
      dsimp only at c0 c1 c2 hsu
      have i0 : (0 : Int) ≤ (k : Int) := by omega
      have i1 : (k : Int) < (qs.length : Int) := by omega
      have n1 : ¬ b1 = wr.heap.size := by omega
      have n2 : ¬ wr.heap.size = b1 := by omega
      have hbz := hb.size
      have hbd2 := mgain_bd g3 g4 g5 g6
      obtain ⟨S, hS⟩ : ∃ S, ssum qs k = S := ⟨_, rfl⟩
      rw [hS] at x1 x2 hsu ⊢
      have HSU := Lib.hid hsu
      have qG := fun w => gain_p ma of w
      have hR : Rgain ma of = (mgain ma of, 0) := by unfold Rgain; rw [if_neg (by omega)]
      rw [hR] at qG
      clear hR
      generalize mgain ma of = G at *
      clear hc2 hx hS hsu y1 y2
      go_wp2_with (go_at_call 28; refine (qG _).mono ?_; rintro e w2 ⟨rfl, rfl⟩)
      go_roundw
      case rel =>
        refine ⟨k + 1, by omega, by go_num, by rw [HSU.out]; first | done | go_num, ?_⟩
        repeat' (first | exact Below.refl _ _ | refine Below.drew ?_ | refine below_drewN ?_ _ | refine Below.alloc ?_ (by first | omega | (simp <;> omega)) _ | refine Below.setCell ?_ (by first | omega | (simp <;> omega)) _ | refine Below.trans ?_ (Below.mono (by assumption) (by first | omega | (simp <;> omega))))
      case measure => go_light; simp [intOf] <;> omega
    · obtain rfl : k = qs.length := by omega
      go_wp2
      go_light
      refine bodyPost_ret (v := .tuple #[.int .i64 (ssum qs qs.length), .int .i64 0]) (by simp [results, Try.results47, go_sem, *]) rfl ⟨rfl, ?_⟩
      repeat' (first | exact Below.refl _ _ | refine Below.drew ?_ | refine below_drewN ?_ _ | refine Below.alloc ?_ (by first | omega | (simp <;> omega)) _ | refine Below.setCell ?_ (by first | omega | (simp <;> omega)) _ | refine Below.trans ?_ (Below.mono (by assumption) (by first | omega | (simp <;> omega))))
theorem score_p (a : Option Addr) (qs : List (Int × Int × Int)) (cap : Nat) (w : World) (ha : RowQ w a qs) (hl : qs.length ≤ 9223372036854775807) :
    Calls Try.prog 47 #[.slice a qs.length cap] w fun e w' => e = .returned (.tuple #[.int .i64 (Pscore qs).1, .int .i64 (Pscore qs).2]) ∧ Below w.heap.size w w' := by
  unfold Pscore
  by_cases h : schk qs = 0
  · rw [if_neg (by simpa using h)]
    exact score_1 a qs cap w ha hl h
  · rw [if_pos h]
    exact score_2 a qs cap w ha hl h
set_option maxRecDepth 100000 in
set_option maxHeartbeats 4000000 in
theorem rscore_1 (a : Option Addr) (qs : List (Int × Int × Int)) (cap : Nat) (w : World) (ha : RowQ w a qs) (hl : qs.length ≤ 9223372036854775807) (h : schk qs = 0) :
    Calls Try.prog 48 #[.slice a qs.length cap] w fun e w' => e = .returned (.tuple #[.int .i64 (ssum qs qs.length), .int .i64 0]) ∧ Below w.heap.size w w' := by
  have qC := fun w h => rscheck_p a qs cap w h hl
  rw [h] at qC
  have hbd := Lib.hid (ssum_bd h)
  have hg := Lib.hid (schk_get h)
  have hlq := (schk_get h).1
  clear h
  go_enter Try.func48, Try.ntmps48
  go_wp2_with (go_at_call 75; refine (qC _ ha).mono ?_; rintro e w1 ⟨rfl, hb1⟩)
  have hs1 := hb1.size
  have ha1 := ha.later hb1
  go_loopw [5, 6] (fun vs vi wr => ∃ (k : Nat), k ≤ qs.length ∧ vi = .int .i64 (k : Int) ∧ vs = .int .i64 (ssum qs k) ∧ Below w1.heap.size w1 wr) (fun _ i _ => qs.length - (intOf i).toNat)
  case atStart => exact ⟨0, by omega, rfl, rfl, Below.refl _ _⟩
  case round =>
    obtain ⟨k, hk, rfl, rfl, hb⟩ := hrel
    by_cases hlt : k < qs.length
    · obtain ⟨b1, o1, rfl, hb2, hc2⟩ := (ha1.later hb).at hlt
      obtain ⟨c0, c1, c2⟩ := hc2 k hlt
      obtain ⟨x1, x2⟩ := hbd.out k hk
      obtain ⟨y1, y2⟩ := hbd.out (k + 1) hlt
      have hsu : ssum qs (k + 1) = ssum qs k + mgain (qs.getD k (0, 0, 0)).2.1 (qs.getD k (0, 0, 0)).2.2 := rfl
      obtain ⟨⟨li, ma, of⟩, hx⟩ : ∃ q, qs.getD k (0, 0, 0) = q := ⟨_, rfl⟩
      obtain ⟨g1, g2, g3, g4, g5, g6⟩ := hg.out.2 k hlt li ma of hx
      rw [hx] at c0 c1 c2 hsu
      dsimp only at c0 c1 c2 hsu
      have i0 : (0 : Int) ≤ (k : Int) := by omega
      have i1 : (k : Int) < (qs.length : Int) := by omega
      have n1 : ¬ b1 = wr.heap.size := by omega
      have n2 : ¬ wr.heap.size = b1 := by omega
      have hbz := hb.size
      have hbd2 := mgain_bd g3 g4 g5 g6
      obtain ⟨S, hS⟩ : ∃ S, ssum qs k = S := ⟨_, rfl⟩
      rw [hS] at x1 x2 hsu ⊢
      have HSU := Lib.hid hsu
      obtain ⟨n, rfl⟩ : ∃ n : Nat, of = (n : Int) := ⟨of.toNat, by omega⟩
      have qH := fun w => rhigh_s n w (by omega)
      have hhb := hi_bd n (by omega)
      have hmg : mgain ma (n : Int) = 4 * ma - hi n := by unfold mgain; rw [Int.toNat_natCast]
      rw [hmg] at HSU hbd2 hsu
      generalize hi n = H at *
      clear hmg
      clear hc2 hx hS hsu y1 y2
      go_wp2
      apply wp_det
      case det =>
        go_region_with (go_at_call 79; refine (qH _).mono ?_; rintro e w2 ⟨rfl, rfl⟩)
        all_goals exact ⟨rfl, rfl⟩
      go_wp2
      go_roundw
      case rel =>
        refine ⟨k + 1, by omega, by go_num, by rw [HSU.out]; first | done | go_num, ?_⟩
        repeat' (first | exact Below.refl _ _ | refine Below.drew ?_ | refine below_drewN ?_ _ | refine Below.alloc ?_ (by first | omega | (simp <;> omega)) _ | refine Below.setCell ?_ (by first | omega | (simp <;> omega)) _ | refine Below.trans ?_ (Below.mono (by assumption) (by first | omega | (simp <;> omega))))
      case measure => go_light; simp [intOf] <;> omega
    · obtain rfl : k = qs.length := by omega
      go_wp2
      go_light
      refine bodyPost_ret (v := .tuple #[.int .i64 (ssum qs qs.length), .int .i64 0]) (by simp [results, Try.results48, go_sem, *]) rfl ⟨rfl, ?_⟩
      repeat' (first | exact Below.refl _ _ | refine Below.drew ?_ | refine below_drewN ?_ _ | refine Below.alloc ?_ (by first | omega | (simp <;> omega)) _ | refine Below.setCell ?_ (by first | omega | (simp <;> omega)) _ | refine Below.trans ?_ (Below.mono (by assumption) (by first | omega | (simp <;> omega))))
theorem rscore_p (a : Option Addr) (qs : List (Int × Int × Int)) (cap : Nat) (w : World) (ha : RowQ w a qs) (hl : qs.length ≤ 9223372036854775807) :
    Calls Try.prog 48 #[.slice a qs.length cap] w fun e w' => e = .returned (.tuple #[.int .i64 (Pscore qs).1, .int .i64 (Pscore qs).2]) ∧ Below w.heap.size w w' := by
  unfold Pscore
  by_cases h : schk qs = 0
  · rw [if_neg (by simpa using h)]
    exact rscore_1 a qs cap w ha hl h
  · rw [if_pos h]
    exact rscore_2 a qs cap w ha hl h
end Go.Proofs.Ytammacofhdbgcaa
