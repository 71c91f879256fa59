/-
  The number of four bytes, walked.
-/
import Derived.Test.YtenhglamnpmkaaaRows
import Derived.Test.YtenhglamnpmkaaaWindow3
import Derived.WalkMore
import Derived.Test.YtenhglamnpmkaaaCommon
import Derived.Deep.Light
import Derived.Shelf.Abstract
import Derived.Shelf.RegionOpen
import Derived.OwnWalkIn
import Derived.TacticsInMore
import Derived.LoopNIn
import Derived.LoopIn
namespace Go.Proofs.Ytenhglamnpmkaaa
open Go.RowKit
set_option linter.unusedSimpArgs false
set_option linter.unusedVariables false
attribute [local go_sem] Oper.semAt_some
theorem or_mul4 (a b i m : Nat) (hm : m = 2 ^ i) (h : a < m) : a ||| (b * m) = b * m + a := by
  subst hm
  rw [Nat.or_comm, ← Nat.shiftLeft_eq, Nat.shiftLeft_add_eq_or_of_lt h]
theorem or64 (a b : Nat) (ha : a < 2 ^ 62) (hb : b < 2 ^ 62) : bits BinOp.or IntKind.i64 (a : Int) (b : Int) = ((a ||| b : Nat) : Int) := by
  have h := Nat.or_lt_two_pow ha hb
  have e64 : IntKind.i64.bits = 64 := rfl
  unfold bits
  simp only [e64, BitVec.ofInt_natCast, BitVec.toNat_or, BitVec.toNat_ofNat]
  rw [Nat.mod_eq_of_lt (by omega), Nat.mod_eq_of_lt (by omega), IntKind.wrap_i64]
  omega
theorem sum4 (x y z u : Nat) (hx : x < 256) (hy : y < 256) (hz : z < 256) (hu : u < 256) :
    bits BinOp.or IntKind.i64 (bits BinOp.or IntKind.i64 (bits BinOp.or IntKind.i64 (bits BinOp.or IntKind.i64 0 (x : Int)) ((y : Int) * 256)) ((z : Int) * 65536)) ((u : Int) * 16777216) = (x : Int) + y * 256 + z * 65536 + u * 16777216 := by
  have e0 : (0 : Int) = ((0 : Nat) : Int) := rfl
  have e1 : ((y : Int) * 256) = ((y * 256 : Nat) : Int) := by omega
  have e2 : ((z : Int) * 65536) = ((z * 65536 : Nat) : Int) := by omega
  have e3 : ((u : Int) * 16777216) = ((u * 16777216 : Nat) : Int) := by omega
  rw [e1, e2, e3, e0, or64 0 x (by omega) (by omega), Nat.zero_or, or64 x (y * 256) (by omega) (by omega), or_mul4 x y 8 256 (by decide) (by omega), or64 _ (z * 65536) (by omega) (by omega), or_mul4 _ z 16 65536 (by decide) (by omega), or64 _ (u * 16777216) (by omega) (by omega), or_mul4 _ u 24 16777216 (by decide) (by omega)]
  omega
theorem idx4_0 (x y z u : Value) (w : World) : (Instr.index 89 (.agg #[x, y, z, u]) (.int .i64 0)).run Try.prog w = .ok x w := by kernel_rfl
attribute [local go_sem] idx4_0
theorem idx4_1 (x y z u : Value) (w : World) : (Instr.index 89 (.agg #[x, y, z, u]) (.int .i64 1)).run Try.prog w = .ok y w := by kernel_rfl
attribute [local go_sem] idx4_1
theorem idx4_2 (x y z u : Value) (w : World) : (Instr.index 89 (.agg #[x, y, z, u]) (.int .i64 2)).run Try.prog w = .ok z w := by kernel_rfl
attribute [local go_sem] idx4_2
theorem idx4_3 (x y z u : Value) (w : World) : (Instr.index 89 (.agg #[x, y, z, u]) (.int .i64 3)).run Try.prog w = .ok u w := by kernel_rfl
attribute [local go_sem] idx4_3

theorem four_1 (s : ByteArray) (p : Nat) (w : World) (h : p + 4 ≤ s.size) (hl : s.size ≤ 1048576) (x y z u : Nat) (hx : x < 256) (hy : y < 256) (hz : z < 256) (hu : u < 256)
    (q1 : ∀ w, Calls Try.prog 64 #[.string s, .int .i64 (p : Int)] w fun e' w' => e' = .returned (.agg #[.int .u8 (x : Nat), .int .u8 (y : Nat), .int .u8 (z : Nat), .int .u8 (u : Nat)]) ∧ Below w.heap.size w w') :
    Calls Try.prog 51 #[.string s, .int .i64 (p : Int)] w fun e' w' => e' = .returned (.tuple #[.int .i64 ((x : Int) + y * 256 + z * 65536 + u * 16777216), .int .i64 0]) ∧ Below w.heap.size w w' := by
  have g1 : ¬ (1048576 : Int) < (s.size : Int) := by omega
  have g2 : ¬ (p : Int) < 0 := by omega
  have g3 : ¬ (s.size : Int) - 4 < (p : Int) := by omega
  go_enter Try.func51, Try.ntmps51
  go_wp2_with ((go_at_call 64; refine (q1 _).mono ?_; rintro e w1 ⟨rfl, hb⟩; have hsz := hb.size; (try simp at hsz)))
  repeat' (first | (go_region <;> go_wp2_with ((go_at_call 64; refine (q1 _).mono ?_; rintro e w1 ⟨rfl, hb⟩; have hsz := hb.size; (try simp at hsz)))) | (refine wp_loop_rounds 5 ?_; rw [rounds_succ]; go_wp2_with ((go_at_call 64; refine (q1 _).mono ?_; rintro e w1 ⟨rfl, hb⟩; have hsz := hb.size; (try simp at hsz)))) | (rw [rounds_succ]; go_wp2_with ((go_at_call 64; refine (q1 _).mono ?_; rintro e w1 ⟨rfl, hb⟩; have hsz := hb.size; (try simp at hsz)))))
  have h4 := sum4 x y z u hx hy hz hu
  go_light
  refine bodyPost_ret (v := .tuple #[.int .i64 ((x : Int) + y * 256 + z * 65536 + u * 16777216), .int .i64 0]) (by simp [results, Try.results51, go_sem, h4]) rfl ⟨rfl, ?_⟩
  repeat' (first | exact Below.refl _ _ | refine Below.drew ?_ | refine below_drewN ?_ _ | refine Below.alloc ?_ (by first | omega | (simp <;> omega)) _ | refine Below.setCell ?_ (by first | omega | (simp <;> omega)) _ | refine Below.trans ?_ (Below.mono (by assumption) (by first | omega | (simp <;> omega))))

/-- What Four returns. -/
def wfour (s : ByteArray) (p : Int) : Int × Int := if 1048576 < s.size then (0, 4) else if 0 ≤ p ∧ p + 4 ≤ (s.size : Int) then ((byt s p.toNat : Int) + (byt s (p.toNat + 1) : Nat) * 256 + (byt s (p.toNat + 2) : Nat) * 65536 + (byt s (p.toNat + 3) : Nat) * 16777216, 0) else (0, 2)
theorem byt_lt (s : ByteArray) (i : Nat) : byt s i < 256 := by
  unfold byt
  split
  · exact UInt8.toNat_lt _
  · decide

set_option maxHeartbeats 1000000 in
theorem rfour_1 (s : ByteArray) (p : Nat) (w : World) (h : p + 4 ≤ s.size) (hl : s.size ≤ 1048576) :
    Calls Try.prog 52 #[.string s, .int .i64 (p : Int)] w fun e' w' => e' = .returned (.tuple #[.int .i64 ((byt s p : Int) + (byt s (p + 1) : Nat) * 256 + (byt s (p + 2) : Nat) * 65536 + (byt s (p + 3) : Nat) * 16777216), .int .i64 0]) ∧ Below w.heap.size w w' := by
  have g1 : ¬ (1048576 : Int) < (s.size : Int) := by omega
  have g2 : ¬ (p : Int) < 0 := by omega
  have g3 : ¬ (s.size : Int) - 4 < (p : Int) := by omega
  obtain ⟨x, hx⟩ : ∃ c : Nat, (s[p]'(by omega)).toNat = c := ⟨_, rfl⟩
  obtain ⟨y, hy⟩ : ∃ c : Nat, (s[p + 1]'(by omega)).toNat = c := ⟨_, rfl⟩
  obtain ⟨z, hz⟩ : ∃ c : Nat, (s[p + 2]'(by omega)).toNat = c := ⟨_, rfl⟩
  obtain ⟨u, hu⟩ : ∃ c : Nat, (s[p + 3]'(by omega)).toNat = c := ⟨_, rfl⟩
  rw [byt_get (by omega) hx, byt_get (by omega) hy, byt_get (by omega) hz, byt_get (by omega) hu]
  have lx : x < 256 := by rw [← hx]; exact UInt8.toNat_lt _
  have ly : y < 256 := by rw [← hy]; exact UInt8.toNat_lt _
  have lz : z < 256 := by rw [← hz]; exact UInt8.toNat_lt _
  have lu : u < 256 := by rw [← hu]; exact UInt8.toNat_lt _
  have i0 : (0 : Int) ≤ (p : Int) := by omega
  have i1 : (p : Int) < (s.size : Int) := by omega
  have i2 : (0 : Int) ≤ (p : Int) + 1 := by omega
  have i3 : (p : Int) + 1 < (s.size : Int) := by omega
  have i4 : (0 : Int) ≤ (p : Int) + 2 := by omega
  have i5 : (p : Int) + 2 < (s.size : Int) := by omega
  have i6 : (0 : Int) ≤ (p : Int) + 3 := by omega
  have i7 : (p : Int) + 3 < (s.size : Int) := by omega
  have t1 : ((p : Int) + 1).toNat = p + 1 := by omega
  have t2 : ((p : Int) + 2).toNat = p + 2 := by omega
  have t3 : ((p : Int) + 3).toNat = p + 3 := by omega
  go_enter Try.func52, Try.ntmps52
  go_wp2
  repeat' (first | (go_region <;> go_wp2))
  all_goals go_light
  all_goals (refine bodyPost_ret (v := .tuple #[.int .i64 ((x : Int) + y * 256 + z * 65536 + u * 16777216), .int .i64 0]) (by simp [results, Try.results52, go_sem, *]) rfl ⟨rfl, ?_⟩; repeat' (first | exact Below.refl _ _ | refine Below.drew ?_ | refine below_drewN ?_ _ | refine Below.alloc ?_ (by first | omega | (simp <;> omega)) _ | refine Below.setCell ?_ (by first | omega | (simp <;> omega)) _ | refine Below.trans ?_ (Below.mono (by assumption) (by first | omega | (simp <;> omega)))))

theorem wfour_p (s : ByteArray) (p : Int) (w : World) (hl : s.size ≤ 9223372036854775807) :
    Calls Try.prog 51 #[.string s, .int .i64 p] w fun e' w' => e' = .returned (.tuple #[.int .i64 (wfour s p).1, .int .i64 (wfour s p).2]) ∧ Below w.heap.size w w' := by
  unfold wfour
  by_cases h0 : (1048576 : Int) < (s.size : Int)
  · rw [if_pos (by omega)]
    go_enter Try.func51, Try.ntmps51
    go_wp2
    repeat' (first | (go_region <;> go_wp2))
    all_goals go_light
    all_goals (try simp only [beq_iff_eq, beq_eq_false_iff_ne, bne_iff_ne, bne_eq_false_iff_eq, ne_eq] at *)
    all_goals
      refine bodyPost_ret (v := .tuple #[.int .i64 0, .int .i64 4]) (by simp [results, Try.results51, go_sem, *]) rfl ⟨rfl, ?_⟩
      repeat' (first | exact Below.refl _ _ | refine Below.drew ?_ | refine below_drewN ?_ _ | refine Below.alloc ?_ (by first | omega | (simp <;> omega)) _ | refine Below.setCell ?_ (by first | omega | (simp <;> omega)) _ | refine Below.trans ?_ (Below.mono (by assumption) (by first | omega | (simp <;> omega))))
  · rw [if_neg (by omega)]
    by_cases h1 : 0 ≤ p ∧ p + 4 ≤ (s.size : Int)
    · rw [if_pos h1]
      obtain ⟨p, rfl⟩ : ∃ n : Nat, p = (n : Int) := ⟨p.toNat, by omega⟩
      exact four_1 s p w (by omega) (by omega) _ _ _ _ (byt_lt _ _) (byt_lt _ _) (byt_lt _ _) (byt_lt _ _) (fun w => at_t s p w (by omega) (by omega))
    · rw [if_neg h1]
      have h3 : p < 0 ∨ (¬ p < 0 ∧ (s.size : Int) - 4 < p) := by omega
      clear h1
      rcases h3 with a | ⟨a, b⟩
      all_goals
        go_enter Try.func51, Try.ntmps51
        go_wp2
        repeat' (first | (go_region <;> go_wp2))
        all_goals go_light
        all_goals (try simp only [beq_iff_eq, beq_eq_false_iff_ne, bne_iff_ne, bne_eq_false_iff_eq, ne_eq] at *)
        all_goals
          refine bodyPost_ret (v := .tuple #[.int .i64 0, .int .i64 2]) (by simp [results, Try.results51, go_sem, *]) rfl ⟨rfl, ?_⟩
          repeat' (first | exact Below.refl _ _ | refine Below.drew ?_ | refine below_drewN ?_ _ | refine Below.alloc ?_ (by first | omega | (simp <;> omega)) _ | refine Below.setCell ?_ (by first | omega | (simp <;> omega)) _ | refine Below.trans ?_ (Below.mono (by assumption) (by first | omega | (simp <;> omega))))

theorem rfour_p (s : ByteArray) (p : Int) (w : World) (hl : s.size ≤ 9223372036854775807) :
    Calls Try.prog 52 #[.string s, .int .i64 p] w fun e' w' => e' = .returned (.tuple #[.int .i64 (wfour s p).1, .int .i64 (wfour s p).2]) ∧ Below w.heap.size w w' := by
  unfold wfour
  by_cases h0 : (1048576 : Int) < (s.size : Int)
  · rw [if_pos (by omega)]
    go_enter Try.func52, Try.ntmps52
    go_wp2
    repeat' (first | (go_region <;> go_wp2))
    all_goals go_light
    all_goals (try simp only [beq_iff_eq, beq_eq_false_iff_ne, bne_iff_ne, bne_eq_false_iff_eq, ne_eq] at *)
    all_goals
      refine bodyPost_ret (v := .tuple #[.int .i64 0, .int .i64 4]) (by simp [results, Try.results52, go_sem, *]) rfl ⟨rfl, ?_⟩
      repeat' (first | exact Below.refl _ _ | refine Below.drew ?_ | refine below_drewN ?_ _ | refine Below.alloc ?_ (by first | omega | (simp <;> omega)) _ | refine Below.setCell ?_ (by first | omega | (simp <;> omega)) _ | refine Below.trans ?_ (Below.mono (by assumption) (by first | omega | (simp <;> omega))))
  · rw [if_neg (by omega)]
    by_cases h1 : 0 ≤ p ∧ p + 4 ≤ (s.size : Int)
    · rw [if_pos h1]
      obtain ⟨p, rfl⟩ : ∃ n : Nat, p = (n : Int) := ⟨p.toNat, by omega⟩
      exact rfour_1 s p w (by omega) (by omega)
    · rw [if_neg h1]
      have h3 : p < 0 ∨ (¬ p < 0 ∧ (s.size : Int) - 4 < p) := by omega
      clear h1
      rcases h3 with a | ⟨a, b⟩
      all_goals
        go_enter Try.func52, Try.ntmps52
        go_wp2
        repeat' (first | (go_region <;> go_wp2))
        all_goals go_light
        all_goals (try simp only [beq_iff_eq, beq_eq_false_iff_ne, bne_iff_ne, bne_eq_false_iff_eq, ne_eq] at *)
        all_goals
          refine bodyPost_ret (v := .tuple #[.int .i64 0, .int .i64 2]) (by simp [results, Try.results52, go_sem, *]) rfl ⟨rfl, ?_⟩
          repeat' (first | exact Below.refl _ _ | refine Below.drew ?_ | refine below_drewN ?_ _ | refine Below.alloc ?_ (by first | omega | (simp <;> omega)) _ | refine Below.setCell ?_ (by first | omega | (simp <;> omega)) _ | refine Below.trans ?_ (Below.mono (by assumption) (by first | omega | (simp <;> omega))))
end Go.Proofs.Ytenhglamnpmkaaa
