/-
  errors.As at an error that joins one of the program's own, walked; what is told of it.
-/
import Derived.Test.YtmblpmaelglnpaaDoorRows
import Derived.Test.YtmblpmaelglnpaaDoorSeqPD
import Derived.Test.YtmblpmaelglnpaaDoorGBase
import Derived.Deep.Light
import Derived.Shelf.Abstract
import Derived.Shelf.RegionOpen
import Derived.OwnWalkIn
import Derived.TacticsInMore
import Derived.LoopNIn
import Derived.LoopIn
import Derived.Outline
import Derived.WalkKit
import Derived.LaidEql
import Derived.Stop.Asserts
import Derived.RowKitTokens
import Derived.WalkMore
namespace Go.Proofs.YtmblpmaelglnpaaDoor
open Go.RowKit
set_option linter.unusedSimpArgs false
set_option linter.unusedVariables false
open Go.Shelf Go.Extern.Stop Go.Stop Go.Extern

theorem xValueOfP (t : Addr) (w : World) : (ReflectliteValue.unpack (.iface 120 (.pointer (some t)))).run Tryd.prog w
    = .ok (.agg #[.pointer (some ⟨9, 120, none⟩), .pointer (some ⟨w.heap.size, 0, none⟩), .int .u64 150]) (w.alloc (.cells #[.pointer (some t)] 120)) := by kernel_rfl
theorem xTypeP (a : Addr) (w : World) : (ReflectliteValue.methodAny (ReflectliteValue.valueError "reflectlite.Value.Type" 0) (fun t _ _ _ => ReflectliteType.toType t) #[.agg #[.pointer (some ⟨9, 120, none⟩), .pointer (some a), .int .u64 150]]).run Tryd.prog w
    = .ok (.iface 165 (.agg #[.pointer (some ⟨9, 120, none⟩)])) w := by kernel_rfl
theorem xKindP (w : World) : ((ReflectliteType.abiMethod fun t => (fun a : Nat => Value.int IntKind.u8 (a : Int)) <$> Rtype.kind t) #[.pointer (some ⟨9, 120, none⟩)]).run Tryd.prog w = .ok (.int .u8 22) w := by kernel_rfl
theorem xKindW (w : World) : ((ReflectliteType.abiMethod fun t => (fun a : Nat => Value.int IntKind.u8 (a : Int)) <$> Rtype.kind t) #[.pointer (some ⟨9, 118, none⟩)]).run Tryd.prog w = .ok (.int .u8 25) w := by kernel_rfl
theorem xPartsP (a : Addr) (w : World) : (ReflectliteValue.parts (.agg #[.pointer (some ⟨9, 120, none⟩), .pointer (some a), .int .u64 150])).run Tryd.prog w = .ok (some (120, a, 150)) w := by kernel_rfl
theorem xElemP (w : World) : (ReflectliteType.method ReflectliteType.elem #[.agg #[.pointer (some ⟨9, 120, none⟩)]]).run Tryd.prog w = .ok (.iface 165 (.agg #[.pointer (some ⟨9, 118, none⟩)])) w := by kernel_rfl
theorem xTypeOfW (v : Value) (w : World) : (ReflectliteType.typeOf #[.iface 118 v]).run Tryd.prog w = .ok (.iface 165 (.agg #[.pointer (some ⟨9, 118, none⟩)])) w := by kernel_rfl
theorem xTypeOfJ (v : Value) (w : World) : (ReflectliteType.typeOf #[.iface 138 v]).run Tryd.prog w = .ok (.iface 165 (.agg #[.pointer (some ⟨9, 138, none⟩)])) w := by kernel_rfl
theorem xAssignW (w : World) : (ReflectliteType.relation "AssignableTo" ReflectliteType.assignableTo #[.agg #[.pointer (some ⟨9, 118, none⟩)], .iface 165 (.agg #[.pointer (some ⟨9, 118, none⟩)])]).run Tryd.prog w = .ok (.bool true) w := by kernel_rfl
theorem xAssignJ (w : World) : (ReflectliteType.relation "AssignableTo" ReflectliteType.assignableTo #[.agg #[.pointer (some ⟨9, 138, none⟩)], .iface 165 (.agg #[.pointer (some ⟨9, 118, none⟩)])]).run Tryd.prog w = .ok (.bool false) w := by kernel_rfl
theorem xElemOfP (w : World) : (Rtype.elem? 120).run Tryd.prog w = .ok (some 118) w := by kernel_rfl
theorem xMkW (p : Addr) (w : World) : (ReflectliteValue.mk 118 p ReflectliteValue.flagAddr).run Tryd.prog w = .ok (.agg #[.pointer (some ⟨9, 118, none⟩), .pointer (some p), .int .u64 409]) w := by kernel_rfl
theorem xValueOfW (x i : Int) (w : World) : (ReflectliteValue.unpack (.iface 118 (.agg #[.int .i64 x, .int .i64 i]))).run Tryd.prog w
    = .ok (.agg #[.pointer (some ⟨9, 118, none⟩), .pointer (some ⟨w.heap.size, 0, none⟩), .int .u64 153]) (w.alloc (.cells #[.int .i64 x, .int .i64 i] 118)) := by kernel_rfl
theorem xPartsWa (a : Addr) (w : World) : (ReflectliteValue.parts (.agg #[.pointer (some ⟨9, 118, none⟩), .pointer (some a), .int .u64 409])).run Tryd.prog w = .ok (some (118, a, 409)) w := by kernel_rfl
theorem xPartsW (a : Addr) (w : World) : (ReflectliteValue.parts (.agg #[.pointer (some ⟨9, 118, none⟩), .pointer (some a), .int .u64 153])).run Tryd.prog w = .ok (some (118, a, 153)) w := by kernel_rfl
theorem xDirectW (w : World) : (Rtype.directlyAssignable 118 118).run Tryd.prog w = .ok true w := by kernel_rfl
theorem xMethodKind (h : Value) (w : World) : (Go.method 339 165 (.agg #[h]) "Kind").run Tryd.prog w = .ok (173, h) w := by kernel_rfl
theorem xMethodElem (h : Value) (w : World) : (Go.method 339 165 (.agg #[h]) "Elem").run Tryd.prog w = .ok (190, .agg #[h]) w := by kernel_rfl
theorem xMethodImplements (h : Value) (w : World) : (Go.method 339 165 (.agg #[h]) "Implements").run Tryd.prog w = .ok (191, .agg #[h]) w := by kernel_rfl
theorem xMethodAssignableTo (h : Value) (w : World) : (Go.method 339 165 (.agg #[h]) "AssignableTo").run Tryd.prog w = .ok (188, .agg #[h]) w := by kernel_rfl
theorem xImplementsW (w : World) : (ReflectliteType.relation "Implements" ReflectliteType.implements_ #[.agg #[.pointer (some ⟨9, 118, none⟩)], .iface 165 (.agg #[.pointer (some ⟨9, 74, none⟩)])]).run Tryd.prog w = .ok (.bool true) w := by kernel_rfl
theorem xNoAs (v : Value) (w : World) : (Instr.typeAssert (.iface 138 v) 74 170 true).run Tryd.prog w = .ok (.tuple #[.nilIface, .bool false]) w := run_typeAssert_lacksB Tryd.underlying170 (by kernel_rfl) (by kernel_rfl) v 74 w
theorem xNoUn (v : Value) (w : World) : (Instr.typeAssert (.iface 138 v) 74 173 true).run Tryd.prog w = .ok (.tuple #[.nilIface, .bool false]) w := run_typeAssert_lacksB Tryd.underlying173 (by kernel_rfl) (by kernel_rfl) v 74 w
theorem xHasUs (v : Value) (w : World) : (Instr.typeAssert (.iface 138 v) 74 175 true).run Tryd.prog w = .ok (.tuple #[.iface 138 v, .bool true]) w := run_typeAssert_hasB Tryd.underlying175 (by kernel_rfl) v 74 w
theorem xMethodUn (J : Nat) (w : World) : (Go.method 339 138 (.pointer (some ⟨J, 0, none⟩)) "Unwrap").run Tryd.prog w = .ok (180, .pointer (some ⟨J, 0, none⟩)) w := by kernel_rfl
theorem rlm (z : Sem Value) (f : TypeId → Addr → Nat → Nat → Sem Value) (v : Value) :
    ReflectliteValue.method z f #[v] = (do match ← ReflectliteValue.parts v with | none => z | some (t, a, fl) => f t a fl (fl % 32)) := rfl
theorem xIsNilP (a p : Addr) (W : World) (ha : W.cell? a = some (.pointer (some p))) :
    (ReflectliteValue.method (ReflectliteValue.valueError "reflectlite.Value.IsNil" 0) ReflectliteValue.isNil #[.agg #[.pointer (some ⟨9, 120, none⟩), .pointer (some a), .int .u64 150]]).run Tryd.prog W = .ok (.bool false) W := by
  rw [rlm]
  simp only [Sem.run_bind, xPartsP, Result.andThen]
  simp [ReflectliteValue.isNil, loadVar, isAgg, underlying, Tryd.underlying120, ha, Result.andThen]
theorem xElemV (a p : Addr) (W : World) (ha : W.cell? a = some (.pointer (some p))) :
    (ReflectliteValue.method (ReflectliteValue.valueError "reflectlite.Value.Elem" 0) ReflectliteValue.elem #[.agg #[.pointer (some ⟨9, 120, none⟩), .pointer (some a), .int .u64 150]]).run Tryd.prog W
      = .ok (.agg #[.pointer (some ⟨9, 118, none⟩), .pointer (some p), .int .u64 409]) W := by
  rw [rlm]
  simp only [Sem.run_bind, xPartsP, Result.andThen]
  simp [ReflectliteValue.elem, loadVar, isAgg, underlying, Tryd.underlying120, ha, Result.andThen, xElemOfP, xMkW]
theorem rls (v x : Value) : ReflectliteValue.set #[v, x] = (do
    let (some (dst, a, fl), some (src, b, _)) := (← ReflectliteValue.parts v, ← ReflectliteValue.parts x)
      | unsupported (.noEntry "extern/(internal/reflectlite.Value).Set.zeroValue")
    if fl / ReflectliteValue.flagAddr % 2 == 0 then unsupported (.noEntry "extern/(internal/reflectlite.Value).Set.unaddressable")
    let val ← loadVar src b
    if ← Rtype.directlyAssignable dst src then storeVar dst a val
    else if ← Rtype.implements dst src then
      if (← Rtype.kind src) == 20 then
        match val with
        | .nilIface => unsupported (.noEntry "extern/reflectlite: a nil value of one interface type handed on as a value of another")
        | _ => storeVar dst a val
      else storeVar dst a (.iface src val)
    else panicString ("reflectlite.Set: value of type " ++ (← Rtype.spelt src) ++ " is not assignable to type " ++ (← Rtype.spelt dst))
    pure (.tuple #[])) := rfl
theorem xSizeW (w : World) : (sizeOf 118).run Tryd.prog w = .ok 2 w := by kernel_rfl
theorem xAggW (w : World) : (isAgg 118).run Tryd.prog w = .ok true w := by kernel_rfl
theorem xSetW (T b : Nat) (x i : Int) (o1 o2 : Value) (W : World) (hb0 : W.cell? ⟨b, 0, none⟩ = some (.int .i64 x)) (hb1 : W.cell? ⟨b, 1, none⟩ = some (.int .i64 i)) (ht0 : W.cell? ⟨T, 0, none⟩ = some o1) (ht1 : W.cell? ⟨T, 1, none⟩ = some o2) (hf : ∀ j, W.frozen? ⟨T, j, none⟩ = false) :
    (ReflectliteValue.set #[.agg #[.pointer (some ⟨9, 118, none⟩), .pointer (some ⟨T, 0, none⟩), .int .u64 409], .agg #[.pointer (some ⟨9, 118, none⟩), .pointer (some ⟨b, 0, none⟩), .int .u64 153]]).run Tryd.prog W
      = .ok (.tuple #[]) ((W.setCell ⟨T, 0, none⟩ (.int .i64 x)).setCell ⟨T, 1, none⟩ (.int .i64 i)) := by
  rw [rls]
  simp only [Sem.run_bind, xPartsWa, xPartsW, Result.andThen]
  have hl : (loadCells ⟨b, 0, none⟩ 2).run Tryd.prog W = .ok #[.int .i64 x, .int .i64 i] W := by
    have := run_loadCells_list (P := Tryd.prog) W ⟨b, 0, none⟩ [.int .i64 x, .int .i64 i] (fun j v hj => by
      match j with
      | 0 => simp at hj; rw [← hj]; exact hb0
      | 1 => simp at hj; rw [← hj]; exact hb1
      | j + 2 => simp at hj)
    simpa using this
  have hs0 : (store ⟨T, 0, none⟩ (.int .i64 x)).run Tryd.prog W = .ok () (W.setCell ⟨T, 0, none⟩ (.int .i64 x)) := by
    rw [run_store Tryd.prog W _ _ _ (by rfl)]
    simp [ht0, hf]
  have ht1' : (W.setCell ⟨T, 0, none⟩ (.int .i64 x)).cell? ⟨T, 1, none⟩ = some o2 := by simp [go_sem, ht1]
  have hs1 : (store ⟨T, 1, none⟩ (.int .i64 i)).run Tryd.prog (W.setCell ⟨T, 0, none⟩ (.int .i64 x)) = .ok () ((W.setCell ⟨T, 0, none⟩ (.int .i64 x)).setCell ⟨T, 1, none⟩ (.int .i64 i)) := by
    rw [run_store Tryd.prog _ _ _ _ (by rfl)]
    simp [go_sem, ht1', hf]
  simp [ReflectliteValue.flagAddr, loadVar, xAggW, xSizeW, hl, Result.andThen, xDirectW, storeVar, Value.cells, storeCells, Addr.add, hs0, hs1]

set_option maxRecDepth 100000 in
set_option maxHeartbeats 4000000 in
/-- errors.as at the error itself: the target's variable is set. -/
theorem as_in (T a : Nat) (x i : Int) (o1 o2 : Value) (w : World) (ha : w.cell? ⟨a, 0, none⟩ = some (.pointer (some ⟨T, 0, none⟩))) (ht0 : w.cell? ⟨T, 0, none⟩ = some o1) (ht1 : w.cell? ⟨T, 1, none⟩ = some o2) (hf : ∀ j, w.frozen? ⟨T, j, none⟩ = false) (tv : Value) :
    Calls Tryd.prog 114 #[.iface 118 (.agg #[.int .i64 x, .int .i64 i]), tv, .agg #[.pointer (some ⟨9, 120, none⟩), .pointer (some ⟨a, 0, none⟩), .int .u64 150], .iface 165 (.agg #[.pointer (some ⟨9, 118, none⟩)])] w fun e w' => e = .returned (.bool true) ∧ w'.cell? ⟨T, 0, none⟩ = some (.int .i64 x) ∧ (∀ L, L ≤ T → L ≤ w.heap.size → Below L w w') ∧ w.heap.size ≤ w'.heap.size := by
  have hVO := @run_callFunc_extern Tryd.prog 111 _ (fun args => ReflectliteValue.unpack (args.getD 0 (.tuple #[]))) Tryd.func111 (by kernel_rfl) (by kernel_rfl) (by kernel_rfl) (by kernel_rfl)
  have hTy := @run_callFunc_extern Tryd.prog 112 _ (ReflectliteValue.methodAny (ReflectliteValue.valueError "reflectlite.Value.Type" 0) (fun t _ _ _ => ReflectliteType.toType t)) Tryd.func112 (by kernel_rfl) (by kernel_rfl) (by kernel_rfl) (by kernel_rfl)
  have hIN := @run_callFunc_extern Tryd.prog 113 _ (ReflectliteValue.method (ReflectliteValue.valueError "reflectlite.Value.IsNil" 0) ReflectliteValue.isNil) Tryd.func113 (by kernel_rfl) (by kernel_rfl) (by kernel_rfl) (by kernel_rfl)
  have hKd := @run_callFunc_extern Tryd.prog 173 _ (ReflectliteType.abiMethod fun t => do pure (.int .u8 (← Rtype.kind t))) Tryd.func173 (by kernel_rfl) (by kernel_rfl) (by kernel_rfl) (by kernel_rfl)
  have hEl := @run_callFunc_extern Tryd.prog 190 _ (ReflectliteType.method ReflectliteType.elem) Tryd.func190 (by kernel_rfl) (by kernel_rfl) (by kernel_rfl) (by kernel_rfl)
  have hIm := @run_callFunc_extern Tryd.prog 191 _ (ReflectliteType.relation "Implements" ReflectliteType.implements_) Tryd.func191 (by kernel_rfl) (by kernel_rfl) (by kernel_rfl) (by kernel_rfl)
  have hTO := @run_callFunc_extern Tryd.prog 126 _ ReflectliteType.typeOf Tryd.func126 (by kernel_rfl) (by kernel_rfl) (by kernel_rfl) (by kernel_rfl)
  have hAs := @run_callFunc_extern Tryd.prog 188 _ (ReflectliteType.relation "AssignableTo" ReflectliteType.assignableTo) Tryd.func188 (by kernel_rfl) (by kernel_rfl) (by kernel_rfl) (by kernel_rfl)
  have hVE := @run_callFunc_extern Tryd.prog 127 _ (ReflectliteValue.method (ReflectliteValue.valueError "reflectlite.Value.Elem" 0) ReflectliteValue.elem) Tryd.func127 (by kernel_rfl) (by kernel_rfl) (by kernel_rfl) (by kernel_rfl)
  have hSt := @run_callFunc_extern Tryd.prog 128 _ ReflectliteValue.set Tryd.func128 (by kernel_rfl) (by kernel_rfl) (by kernel_rfl) (by kernel_rfl)
  have t1 := xValueOfP; have t2 := xTypeP; have t3 := xKindP; have t4 := xKindW; have t5 := xElemP; have t6 := xTypeOfW; have t7 := xTypeOfJ; have t8 := xAssignW; have t9 := xAssignJ; have t10 := xValueOfW; have t11 := xMethodKind; have t12 := xMethodElem; have t13 := xMethodImplements; have t14 := xMethodAssignableTo; have t15 := xImplementsW; have t16 := xNoAs; have t17 := xNoUn; have t18 := xHasUs; have t19 := xMethodUn
  have hla : a < w.heap.size := World.block_lt_of_cell? w ⟨a, 0, none⟩ ha
  have hlt : T < w.heap.size := World.block_lt_of_cell? w ⟨T, 0, none⟩ ht0
  have nT : ¬ T = w.heap.size := by omega
  have nT1 : ¬ T = w.heap.size + 1 := by omega
  have na : ¬ a = w.heap.size := by omega
  have el := xElemV ⟨a, 0, none⟩ ⟨T, 0, none⟩ (w.alloc (.cells #[.pointer (some ⟨9, 120, none⟩), .pointer (some ⟨a, 0, none⟩), .int .u64 150] 144)) (by simp [go_sem, *])
  have st := xSetW T (w.heap.size + 1) x i o1 o2 ((w.alloc (.cells #[.pointer (some ⟨9, 120, none⟩), .pointer (some ⟨a, 0, none⟩), .int .u64 150] 144)).alloc (.cells #[.int .i64 x, .int .i64 i] 118)) (by simp [go_sem]) (by simp [go_sem]) (by simp [go_sem, *]) (by simp [go_sem, *]) (fun j => by simp [go_sem, *])
  go_enter Tryd.func114, Tryd.ntmps114
  go_wp2
  refine wp_loop_rounds 1 ?_
  rw [rounds_succ]
  go_wp2
  go_ret
  refine ⟨rfl, by simp [go_sem, *], fun L h1 h2 => ?_, by simp; omega⟩
  repeat' (first | with_reducible exact Below.refl _ _ | with_reducible refine Below.drew ?_ | with_reducible refine below_drewN ?_ _ | with_reducible refine Below.alloc ?_ (by first | omega | (simp <;> omega)) _ | with_reducible refine Below.setCell ?_ (by first | omega | (dsimp only; omega) | (simp <;> omega)) _ | with_reducible refine Below.trans ?_ (Below.mono (by assumption) (by first | omega | (simp <;> omega))))
set_option maxRecDepth 100000 in
set_option maxHeartbeats 4000000 in
/-- errors.as at an error that joins it. -/
theorem as_out (T a J : Nat) (x i : Int) (o1 o2 : Value) (w : World) (ha : w.cell? ⟨a, 0, none⟩ = some (.pointer (some ⟨T, 0, none⟩))) (ht0 : w.cell? ⟨T, 0, none⟩ = some o1) (ht1 : w.cell? ⟨T, 1, none⟩ = some o2) (hf : ∀ j, w.frozen? ⟨T, j, none⟩ = false) (tv : Value) (hJ : JoinAt w 0 J (.iface 118 (.agg #[.int .i64 x, .int .i64 i]))) :
    Calls Tryd.prog 114 #[.iface 138 (.pointer (some ⟨J, 0, none⟩)), tv, .agg #[.pointer (some ⟨9, 120, none⟩), .pointer (some ⟨a, 0, none⟩), .int .u64 150], .iface 165 (.agg #[.pointer (some ⟨9, 118, none⟩)])] w fun e w' => e = .returned (.bool true) ∧ w'.cell? ⟨T, 0, none⟩ = some (.int .i64 x) ∧ (∀ L, L ≤ T → L ≤ w.heap.size → Below L w w') ∧ w.heap.size ≤ w'.heap.size := by
  have hVO := @run_callFunc_extern Tryd.prog 111 _ (fun args => ReflectliteValue.unpack (args.getD 0 (.tuple #[]))) Tryd.func111 (by kernel_rfl) (by kernel_rfl) (by kernel_rfl) (by kernel_rfl)
  have hTy := @run_callFunc_extern Tryd.prog 112 _ (ReflectliteValue.methodAny (ReflectliteValue.valueError "reflectlite.Value.Type" 0) (fun t _ _ _ => ReflectliteType.toType t)) Tryd.func112 (by kernel_rfl) (by kernel_rfl) (by kernel_rfl) (by kernel_rfl)
  have hIN := @run_callFunc_extern Tryd.prog 113 _ (ReflectliteValue.method (ReflectliteValue.valueError "reflectlite.Value.IsNil" 0) ReflectliteValue.isNil) Tryd.func113 (by kernel_rfl) (by kernel_rfl) (by kernel_rfl) (by kernel_rfl)
  have hKd := @run_callFunc_extern Tryd.prog 173 _ (ReflectliteType.abiMethod fun t => do pure (.int .u8 (← Rtype.kind t))) Tryd.func173 (by kernel_rfl) (by kernel_rfl) (by kernel_rfl) (by kernel_rfl)
  have hEl := @run_callFunc_extern Tryd.prog 190 _ (ReflectliteType.method ReflectliteType.elem) Tryd.func190 (by kernel_rfl) (by kernel_rfl) (by kernel_rfl) (by kernel_rfl)
  have hIm := @run_callFunc_extern Tryd.prog 191 _ (ReflectliteType.relation "Implements" ReflectliteType.implements_) Tryd.func191 (by kernel_rfl) (by kernel_rfl) (by kernel_rfl) (by kernel_rfl)
  have hTO := @run_callFunc_extern Tryd.prog 126 _ ReflectliteType.typeOf Tryd.func126 (by kernel_rfl) (by kernel_rfl) (by kernel_rfl) (by kernel_rfl)
  have hAs := @run_callFunc_extern Tryd.prog 188 _ (ReflectliteType.relation "AssignableTo" ReflectliteType.assignableTo) Tryd.func188 (by kernel_rfl) (by kernel_rfl) (by kernel_rfl) (by kernel_rfl)
  have hVE := @run_callFunc_extern Tryd.prog 127 _ (ReflectliteValue.method (ReflectliteValue.valueError "reflectlite.Value.Elem" 0) ReflectliteValue.elem) Tryd.func127 (by kernel_rfl) (by kernel_rfl) (by kernel_rfl) (by kernel_rfl)
  have hSt := @run_callFunc_extern Tryd.prog 128 _ ReflectliteValue.set Tryd.func128 (by kernel_rfl) (by kernel_rfl) (by kernel_rfl) (by kernel_rfl)
  have t1 := xValueOfP; have t2 := xTypeP; have t3 := xKindP; have t4 := xKindW; have t5 := xElemP; have t6 := xTypeOfW; have t7 := xTypeOfJ; have t8 := xAssignW; have t9 := xAssignJ; have t10 := xValueOfW; have t11 := xMethodKind; have t12 := xMethodElem; have t13 := xMethodImplements; have t14 := xMethodAssignableTo; have t15 := xImplementsW; have t16 := xNoAs; have t17 := xNoUn; have t18 := xHasUs; have t19 := xMethodUn
  have hla : a < w.heap.size := World.block_lt_of_cell? w ⟨a, 0, none⟩ ha
  have hlt : T < w.heap.size := World.block_lt_of_cell? w ⟨T, 0, none⟩ ht0
  have nT : ¬ T = w.heap.size := by omega
  have na : ¬ a = w.heap.size := by omega
  obtain ⟨_, G, _, hJB, hG, hGl⟩ := hJ
  have hJl := hJB.lt
  have j0 : w.cell? ⟨J, 0, none⟩ = some (.slice (some ⟨G, 0, none⟩) 1 1) := hJB.cell 0
  have nJ : ¬ J = w.heap.size := by omega
  have nG : ¬ G = w.heap.size := by omega
  go_enter Tryd.func114, Tryd.ntmps114
  go_wp2
  refine wp_loop_rounds 1 ?_
  rw [rounds_succ]
  go_wp2
  refine wp_loop_rounds 1 ?_
  rw [rounds_succ]
  go_wp2_with (go_at_call 114; refine (as_in T a x i o1 o2 _ (by simp [go_sem, *]) (by simp [go_sem, *]) (by simp [go_sem, *]) (fun j => by simp [go_sem, *]) tv).mono ?_; rintro en w9 ⟨rfl, h9, h8, h7⟩)
  go_ret
  refine ⟨rfl, h9, fun L h1 h2 => Below.trans ?_ (h8 L h1 (by simp; omega)), by simp at h7; omega⟩
  repeat' (first | with_reducible exact Below.refl _ _ | with_reducible refine Below.drew ?_ | with_reducible refine below_drewN ?_ _ | with_reducible refine Below.alloc ?_ (by first | omega | (simp <;> omega)) _ | with_reducible refine Below.setCell ?_ (by first | omega | (dsimp only; omega) | (simp <;> omega)) _ | with_reducible refine Below.trans ?_ (Below.mono (by assumption) (by first | omega | (simp <;> omega))))
set_option maxRecDepth 100000 in
set_option maxHeartbeats 4000000 in
theorem as_p (T J : Nat) (x i : Int) (o1 o2 : Value) (w : World) (hg : w.cell? ⟨0, 0, none⟩ = some (.iface 165 (.agg #[.pointer (some ⟨9, 74, none⟩)]))) (ht0 : w.cell? ⟨T, 0, none⟩ = some o1) (ht1 : w.cell? ⟨T, 1, none⟩ = some o2) (hf : ∀ j, w.frozen? ⟨T, j, none⟩ = false) (hJ : JoinAt w 0 J (.iface 118 (.agg #[.int .i64 x, .int .i64 i]))) :
    Calls Tryd.prog 95 #[.iface 138 (.pointer (some ⟨J, 0, none⟩)), .iface 120 (.pointer (some ⟨T, 0, none⟩))] w fun e w' => e = .returned (.bool true) ∧ w'.cell? ⟨T, 0, none⟩ = some (.int .i64 x) ∧ (∀ L, L ≤ T → L ≤ w.heap.size → Below L w w') ∧ w.heap.size ≤ w'.heap.size := by
  have hVO := @run_callFunc_extern Tryd.prog 111 _ (fun args => ReflectliteValue.unpack (args.getD 0 (.tuple #[]))) Tryd.func111 (by kernel_rfl) (by kernel_rfl) (by kernel_rfl) (by kernel_rfl)
  have hTy := @run_callFunc_extern Tryd.prog 112 _ (ReflectliteValue.methodAny (ReflectliteValue.valueError "reflectlite.Value.Type" 0) (fun t _ _ _ => ReflectliteType.toType t)) Tryd.func112 (by kernel_rfl) (by kernel_rfl) (by kernel_rfl) (by kernel_rfl)
  have hIN := @run_callFunc_extern Tryd.prog 113 _ (ReflectliteValue.method (ReflectliteValue.valueError "reflectlite.Value.IsNil" 0) ReflectliteValue.isNil) Tryd.func113 (by kernel_rfl) (by kernel_rfl) (by kernel_rfl) (by kernel_rfl)
  have hKd := @run_callFunc_extern Tryd.prog 173 _ (ReflectliteType.abiMethod fun t => do pure (.int .u8 (← Rtype.kind t))) Tryd.func173 (by kernel_rfl) (by kernel_rfl) (by kernel_rfl) (by kernel_rfl)
  have hEl := @run_callFunc_extern Tryd.prog 190 _ (ReflectliteType.method ReflectliteType.elem) Tryd.func190 (by kernel_rfl) (by kernel_rfl) (by kernel_rfl) (by kernel_rfl)
  have hIm := @run_callFunc_extern Tryd.prog 191 _ (ReflectliteType.relation "Implements" ReflectliteType.implements_) Tryd.func191 (by kernel_rfl) (by kernel_rfl) (by kernel_rfl) (by kernel_rfl)
  have hTO := @run_callFunc_extern Tryd.prog 126 _ ReflectliteType.typeOf Tryd.func126 (by kernel_rfl) (by kernel_rfl) (by kernel_rfl) (by kernel_rfl)
  have hAs := @run_callFunc_extern Tryd.prog 188 _ (ReflectliteType.relation "AssignableTo" ReflectliteType.assignableTo) Tryd.func188 (by kernel_rfl) (by kernel_rfl) (by kernel_rfl) (by kernel_rfl)
  have hVE := @run_callFunc_extern Tryd.prog 127 _ (ReflectliteValue.method (ReflectliteValue.valueError "reflectlite.Value.Elem" 0) ReflectliteValue.elem) Tryd.func127 (by kernel_rfl) (by kernel_rfl) (by kernel_rfl) (by kernel_rfl)
  have hSt := @run_callFunc_extern Tryd.prog 128 _ ReflectliteValue.set Tryd.func128 (by kernel_rfl) (by kernel_rfl) (by kernel_rfl) (by kernel_rfl)
  have t1 := xValueOfP; have t2 := xTypeP; have t3 := xKindP; have t4 := xKindW; have t5 := xElemP; have t6 := xTypeOfW; have t7 := xTypeOfJ; have t8 := xAssignW; have t9 := xAssignJ; have t10 := xValueOfW; have t11 := xMethodKind; have t12 := xMethodElem; have t13 := xMethodImplements; have t14 := xMethodAssignableTo; have t15 := xImplementsW; have t16 := xNoAs; have t17 := xNoUn; have t18 := xHasUs; have t19 := xMethodUn
  have hlt : T < w.heap.size := World.block_lt_of_cell? w ⟨T, 0, none⟩ ht0
  have hl0 : 0 < w.heap.size := World.block_lt_of_cell? w ⟨0, 0, none⟩ hg
  have nT : ¬ T = w.heap.size := by omega
  have nT1 : ¬ T = w.heap.size + 1 := by omega
  have n0 : ¬ 0 = w.heap.size := by omega
  have n1 : ¬ w.heap.size = 0 := by omega
  have hJ2 := hJ.later (((Below.refl _ w).alloc (Nat.le_refl _) (.cells #[.pointer (some ⟨T, 0, none⟩)] 120)).alloc (by simp) (.cells #[.pointer (some ⟨9, 120, none⟩), .pointer (some ⟨w.heap.size, 0, none⟩), .int .u64 150] 144))
  have el := xIsNilP ⟨w.heap.size, 0, none⟩ ⟨T, 0, none⟩ ((w.alloc (.cells #[.pointer (some ⟨T, 0, none⟩)] 120)).alloc (.cells #[.pointer (some ⟨9, 120, none⟩), .pointer (some ⟨w.heap.size, 0, none⟩), .int .u64 150] 144)) (by simp [go_sem])
  have hg2 : ((w.alloc (.cells #[.pointer (some ⟨T, 0, none⟩)] 120)).alloc (.cells #[.pointer (some ⟨9, 120, none⟩), .pointer (some ⟨w.heap.size, 0, none⟩), .int .u64 150] 144)).cell? ⟨0, 0, none⟩ = some (.iface 165 (.agg #[.pointer (some ⟨9, 74, none⟩)])) := by simp [go_sem, *]
  go_enter Tryd.func95, Tryd.ntmps95
  go_wp2_with (go_at_call 114; refine (as_out T w.heap.size J x i o1 o2 _ (by simp [go_sem, *]) (by simp [go_sem, *]) (by simp [go_sem, *]) (fun j => by simp [go_sem, *]) _ hJ2).mono ?_; rintro en w9 ⟨rfl, h9, h8, h7⟩)
  go_ret
  refine ⟨rfl, h9, fun L h1 h2 => Below.trans ?_ (h8 L h1 (by simp; omega)), by simp at h7; omega⟩
  repeat' (first | with_reducible exact Below.refl _ _ | with_reducible refine Below.drew ?_ | with_reducible refine below_drewN ?_ _ | with_reducible refine Below.alloc ?_ (by first | omega | (simp <;> omega)) _ | with_reducible refine Below.setCell ?_ (by first | omega | (dsimp only; omega) | (simp <;> omega)) _ | with_reducible refine Below.trans ?_ (Below.mono (by assumption) (by first | omega | (simp <;> omega))))
set_option maxRecDepth 100000 in
set_option maxHeartbeats 4000000 in
theorem told_p (J : Nat) (x i : Int) (w : World) (hg : w.cell? ⟨0, 0, none⟩ = some (.iface 165 (.agg #[.pointer (some ⟨9, 74, none⟩)]))) (hJ : JoinAt w 0 J (.iface 118 (.agg #[.int .i64 x, .int .i64 i]))) :
    Calls Tryd.prog 61 #[.iface 138 (.pointer (some ⟨J, 0, none⟩))] w fun e w' => e = .returned (.int .i64 x) ∧ Below w.heap.size w w' := by
  have hl0 : 0 < w.heap.size := World.block_lt_of_cell? w ⟨0, 0, none⟩ hg
  have n0 : ¬ 0 = w.heap.size := by omega
  have hJ2 := hJ.later ((Below.refl _ w).alloc (Nat.le_refl _) (.cells #[.int .i64 0, .int .i64 0] 118))
  go_enter Tryd.func61, Tryd.ntmps61
  go_wp2_with (go_at_call 95; refine (as_p w.heap.size J x i (.int .i64 0) (.int .i64 0) _ (by simp [go_sem, *]) (by simp [go_sem]) (by simp [go_sem]) (fun j => by simp [go_sem]) hJ2).mono ?_; rintro en w9 ⟨rfl, h9, h8, h7⟩)
  go_ret
  refine ⟨rfl, Below.trans ?_ (h8 w.heap.size (Nat.le_refl _) (by simp))⟩
  repeat' (first | with_reducible exact Below.refl _ _ | with_reducible refine Below.drew ?_ | with_reducible refine below_drewN ?_ _ | with_reducible refine Below.alloc ?_ (by first | omega | (simp <;> omega)) _ | with_reducible refine Below.setCell ?_ (by first | omega | (dsimp only; omega) | (simp <;> omega)) _ | with_reducible refine Below.trans ?_ (Below.mono (by assumption) (by first | omega | (simp <;> omega))))
end Go.Proofs.YtmblpmaelglnpaaDoor
