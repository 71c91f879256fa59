/-
  Four bytes of a string, walked.
-/
import Derived.Test.YtammacofhdbgcaaRows
import Derived.Test.YtammacofhdbgcaaWindow2
import Derived.WalkMore
import Derived.Test.YtammacofhdbgcaaCommon
import Derived.Deep.Light
import Derived.Shelf.Abstract
import Derived.Shelf.RegionOpen
import Derived.OwnWalkIn
import Derived.TacticsInMore
import Derived.LoopNIn
import Derived.LoopIn
import Derived.Lib.LazyBuf
namespace Go.Proofs.Ytammacofhdbgcaa
open Go.RowKit
set_option linter.unusedSimpArgs false
set_option linter.unusedVariables false
attribute [local go_sem] Oper.semAt_some

/-- The four bytes at a place, as the program holds them. -/
def b4 (s : ByteArray) (q : Nat) : List Value := [.int .u8 (byt s q : Nat), .int .u8 (byt s (q + 1) : Nat), .int .u8 (byt s (q + 2) : Nat), .int .u8 (byt s (q + 3) : Nat)]
theorem ext4 (s : ByteArray) (q : Nat) (h : q + 4 ≤ s.size) : (s.extract q (q + 4)).data.toList.map (fun x => Value.int .u8 (x.toNat : Int)) = b4 s q := by
  have hs : s.data.size = s.size := rfl
  have e : ∀ i (hi : i < 4), (s.extract q (q + 4)).data.toList[i]? = some (s[q + i]'(by omega)) := by
    intro i hi
    simp only [ByteArray.data_extract, Array.toList_extract]
    simp
    rw [List.getElem?_take, if_pos hi, List.getElem?_drop, Array.getElem?_toList, Array.getElem?_eq_getElem (by omega)]
    rfl
  have hb : ∀ i (hi : i < 4), byt s (q + i) = (s[q + i]'(by omega)).toNat := fun i hi => byt_get (by omega) rfl
  apply List.ext_getElem?
  intro i
  rw [List.getElem?_map]
  by_cases hi : i < 4
  · rw [e i hi]
    have := hb i hi
    rcases i with _ | _ | _ | _ | i
    · simp [b4] at this ⊢; rw [this]
    · simp [b4] at this ⊢; rw [this]
    · simp [b4] at this ⊢; rw [this]
    · simp [b4] at this ⊢; rw [this]
    · omega
  · have hz : (s.extract q (q + 4)).data.toList.length = 4 := by
      simp [ByteArray.data_extract]
      omega
    rw [List.getElem?_eq_none (by omega), List.getElem?_eq_none (by simp [b4]; omega)]
    rfl
set_option maxRecDepth 100000 in
theorem at_t (s : ByteArray) (q : Nat) (w : World) (h : q + 4 ≤ s.size) (hl : s.size ≤ 1048576) : Calls Try.prog 105 #[.string s, .int .i64 (q : Int)] w fun e' w' => e' = .returned (.agg (b4 s q).toArray) ∧ Below w.heap.size w w' := by
  have g1 : (0 : Int) ≤ (q : Int) + 4 := by omega
  have g2 : (q : Int) + 4 ≤ (s.size : Int) := by omega
  have g3 : (0 : Int) ≤ (q : Int) := by omega
  have g4 : (q : Int) ≤ (q : Int) + 4 := by omega
  have hz4 : (s.extract q (q + 4)).size = 4 := by simp; omega
  have hcp : (Builtin.copy_ #[43, 9] 3 #[.slice (some ⟨w.heap.size, 0, none⟩) 4 4, .string (s.extract q (q + 4))]).run Try.prog (w.alloc (.cells #[.int .u8 0, .int .u8 0, .int .u8 0, .int .u8 0] 138)).drew = .ok (goInt 4) (w.alloc (.cells #[.int .u8 (byt s q : Nat), .int .u8 (byt s (q + 1) : Nat), .int .u8 (byt s (q + 2) : Nat), .int .u8 (byt s (q + 3) : Nat)] 138)).drew := by
    have := run_copy_string (P := Try.prog) (w.alloc (.cells #[.int .u8 0, .int .u8 0, .int .u8 0, .int .u8 0] 138)).drew 43 9 3 5 w.heap.size 0 4 4 (s.extract q (q + 4)) Try.underlying43 (fun w => by kernel_rfl) (by omega) (by
      intro j hj
      rw [hz4] at hj
      rcases j with _ | _ | _ | _ | j
      · simp [go_sem]
      · simp [go_sem]
      · simp [go_sem]
      · simp [go_sem]
      · omega) (by intro j hj; simp [go_sem])
    rw [hz4, ext4 s q h] at this
    rw [this]
    congr 1
    simp only [b4, World.setCells]
    have e : ∀ (x : World) (a : Addr) (v : Value), x.drew.setCell a v = (x.setCell a v).drew := fun _ _ _ => rfl
    rw [e, e, e, e]
    congr 1
    simp [go_sem]
  go_enter Try.func105, Try.ntmps105
  go_wp2
  go_region
  go_wp2
  go_light
  refine bodyPost_ret (v := .agg #[.int .u8 (byt s q : Nat), .int .u8 (byt s (q + 1) : Nat), .int .u8 (byt s (q + 2) : Nat), .int .u8 (byt s (q + 3) : Nat)]) (by simp [results, Try.results105, go_sem, *]) rfl ⟨rfl, ?_⟩
  repeat' (first | exact Below.refl _ _ | refine Below.drew ?_ | refine below_drewN ?_ _ | refine Below.alloc ?_ (by first | omega | (simp <;> omega)) _ | refine Below.setCell ?_ (by first | omega | (simp <;> omega)) _ | refine Below.trans ?_ (Below.mono (by assumption) (by first | omega | (simp <;> omega))))
end Go.Proofs.Ytammacofhdbgcaa
