import Derived.Test.YtjilhkjgejnmpaaGreatDoorProg
import Derived.WalkKit
import Derived.LaidEql
import Derived.Stop.Asserts
import Derived.RowKitTokens
set_option linter.all false
noncomputable section
namespace Go.Proofs.YtjilhkjgejnmpaaGreatDoor
open Go.RowKit Go.Extern.Stop Go.Stop Go.Extern
theorem Tryz.valueOf218(t:Addr)(w:World):(ReflectliteValue.unpack (.iface 218 (.pointer (some t)))).run Tryz.prog w
 = .ok (.agg #[.pointer (some ⟨1,218,none⟩),.pointer (some ⟨w.heap.size,0,none⟩),.int .u64 150]) (w.alloc (.cells #[.pointer (some t)] 218)):=by kernel_rfl
theorem Tryz.type218 (a : Addr) (w : World) : (ReflectliteValue.methodAny (ReflectliteValue.valueError "reflectlite.Value.Type" 0) (fun t _ _ _ => ReflectliteType.toType t) #[.agg #[.pointer (some ⟨1, 218, none⟩), .pointer (some a), .int .u64 150]]).run Tryz.prog w
 = .ok (.iface 318 (.agg #[.pointer (some ⟨1,218,none⟩)])) w:=by kernel_rfl
theorem Tryz.kind218(w:World):((ReflectliteType.abiMethod fun t=>(fun a:Nat=>Value.int IntKind.u8 (a:Int)) <$> Rtype.kind t) #[.pointer (some ⟨1,218,none⟩)]).run Tryz.prog w=.ok (.int .u8 22) w:=by kernel_rfl
theorem Tryz.kind216(w:World):((ReflectliteType.abiMethod fun t=>(fun a:Nat=>Value.int IntKind.u8 (a:Int)) <$> Rtype.kind t) #[.pointer (some ⟨1,216,none⟩)]).run Tryz.prog w=.ok (.int .u8 25) w:=by kernel_rfl
theorem rlm(z:Sem Value)(f:TypeId→Addr→Nat→Nat→Sem Value)(v:Value) :
 ReflectliteValue.method z f #[v]=(do match ← ReflectliteValue.parts v with|none=>z|some (t,a,fl)=>f t a fl (fl % 32)):=rfl
theorem Tryz.parts218(a:Addr)(w:World):(ReflectliteValue.parts (.agg #[.pointer (some ⟨1,218,none⟩),.pointer (some a),.int .u64 150])).run Tryz.prog w=.ok (some (218,a,150)) w:=by kernel_rfl
theorem Tryz.isNil218(a p:Addr)(W:World)(ha:W.cell? a=some (.pointer (some p))) :
 (ReflectliteValue.method (ReflectliteValue.valueError "reflectlite.Value.IsNil" 0) ReflectliteValue.isNil #[.agg #[.pointer (some ⟨1, 218, none⟩), .pointer (some a), .int .u64 150]]).run Tryz.prog W = .ok (.bool false) W := by
 rw[rlm]
 simp only[Sem.run_bind,Tryz.parts218,Result.andThen]
 simp[ReflectliteValue.isNil,loadVar,isAgg,underlying,Tryz.underlying218,ha,Result.andThen,Tryz.parts218]
theorem Tryz.elem218(w:World):(ReflectliteType.method ReflectliteType.elem #[.agg #[.pointer (some ⟨1,218,none⟩)]]).run Tryz.prog w=.ok (.iface 318 (.agg #[.pointer (some ⟨1,216,none⟩)])) w:=by kernel_rfl
theorem Tryz.implements216 (w : World) : (ReflectliteType.relation "Implements" ReflectliteType.implements_ #[.agg #[.pointer (some ⟨1, 216, none⟩)], .iface 318 (.agg #[.pointer (some ⟨1, 143, none⟩)])]).run Tryz.prog w = .ok (.bool true) w := by kernel_rfl
theorem Tryz.typeOf(t:TypeId)(h:t=216∨t=272)(v:Value)(w:World):(ReflectliteType.typeOf #[.iface t v]).run Tryz.prog w=.ok (.iface 318 (.agg #[.pointer (some ⟨1,t,none⟩)])) w:=by
 rcases h with rfl|rfl<;>kernel_rfl
theorem Tryz.assignable (w : World) : (ReflectliteType.relation "AssignableTo" ReflectliteType.assignableTo #[.agg #[.pointer (some ⟨1, 216, none⟩)], .iface 318 (.agg #[.pointer (some ⟨1, 216, none⟩)])]).run Tryz.prog w = .ok (.bool true) w := by kernel_rfl
theorem Tryz.assignable0 (w : World) : (ReflectliteType.relation "AssignableTo" ReflectliteType.assignableTo #[.agg #[.pointer (some ⟨1, 272, none⟩)], .iface 318 (.agg #[.pointer (some ⟨1, 216, none⟩)])]).run Tryz.prog w = .ok (.bool false) w := by kernel_rfl
theorem Tryz.valueOf216(p q:Value)(w:World):(ReflectliteValue.unpack (.iface 216 (.agg #[p,q]))).run Tryz.prog w
 = .ok (.agg #[.pointer (some ⟨1,216,none⟩),.pointer (some ⟨w.heap.size,0,none⟩),.int .u64 153]) (w.alloc (.cells #[p,q] 216)):=by kernel_rfl
theorem Tryz.elemOf218(w:World):(Rtype.elem? 218).run Tryz.prog w=.ok (some 216) w:=by kernel_rfl
theorem Tryz.mk216(p:Addr)(w:World):(ReflectliteValue.mk 216 p ReflectliteValue.flagAddr).run Tryz.prog w=.ok (.agg #[.pointer (some ⟨1,216,none⟩),.pointer (some p),.int .u64 409]) w:=by kernel_rfl
theorem Tryz.elemV218(a p:Addr)(W:World)(ha:W.cell? a=some (.pointer (some p))) :
 (ReflectliteValue.method (ReflectliteValue.valueError "reflectlite.Value.Elem" 0) ReflectliteValue.elem #[.agg #[.pointer (some ⟨1, 218, none⟩), .pointer (some a), .int .u64 150]]).run Tryz.prog W
   = .ok (.agg #[.pointer (some ⟨1,216,none⟩),.pointer (some p),.int .u64 409]) W:=by
 rw[rlm]
 simp only[Sem.run_bind,Tryz.parts218,Result.andThen]
 simp[ReflectliteValue.elem,loadVar,isAgg,underlying,Tryz.underlying218,ha,Result.andThen,Tryz.elemOf218,Tryz.mk216]
theorem Tryz.methodKind (h : Value) (w : World) : (Go.method 478 318 (.agg #[h]) "Kind").run Tryz.prog w = .ok (291, h) w := by kernel_rfl
theorem Tryz.methodElem (h : Value) (w : World) : (Go.method 478 318 (.agg #[h]) "Elem").run Tryz.prog w = .ok (305, .agg #[h]) w := by kernel_rfl
theorem Tryz.methodImplements (h : Value) (w : World) : (Go.method 478 318 (.agg #[h]) "Implements").run Tryz.prog w = .ok (306, .agg #[h]) w := by kernel_rfl
theorem Tryz.methodAssignableTo (h : Value) (w : World) : (Go.method 478 318 (.agg #[h]) "AssignableTo").run Tryz.prog w = .ok (303, .agg #[h]) w := by kernel_rfl
theorem Tryz.methodUnwrap (h k : Value) (w : World) : (Go.method 478 272 (.agg #[h, k]) "Unwrap").run Tryz.prog w = .ok (298, .agg #[h, k]) w := by kernel_rfl
theorem rls (v x:Value):ReflectliteValue.set #[v,x]=(do
 let (some (dst,a,fl),some (src,b,_)):=(← ReflectliteValue.parts v,← ReflectliteValue.parts x)
  | unsupported (.noEntry "extern/(internal/reflectlite.Value).Set.zeroValue")
 if fl / ReflectliteValue.flagAddr % 2 == 0 then unsupported (.noEntry "extern/(internal/reflectlite.Value).Set.unaddressable")
 let val ← loadVar src b
 if ← Rtype.directlyAssignable dst src then storeVar dst a val
 else if ← Rtype.implements dst src then
  if (← Rtype.kind src) == 20 then
   match val with
   | .nilIface => unsupported (.noEntry "extern/reflectlite: a nil value of one interface type handed on as a value of another")
   |_=>storeVar dst a val
  else storeVar dst a (.iface src val)
 else panicString ("reflectlite.Set: value of type " ++ (← Rtype.spelt src) ++ " is not assignable to type " ++ (← Rtype.spelt dst))
 pure (.tuple #[])):=rfl
theorem Tryz.parts216a(a:Addr)(w:World):(ReflectliteValue.parts (.agg #[.pointer (some ⟨1,216,none⟩),.pointer (some a),.int .u64 409])).run Tryz.prog w=.ok (some (216,a,409)) w:=by kernel_rfl
theorem Tryz.parts216(a:Addr)(w:World):(ReflectliteValue.parts (.agg #[.pointer (some ⟨1,216,none⟩),.pointer (some a),.int .u64 153])).run Tryz.prog w=.ok (some (216,a,153)) w:=by kernel_rfl
theorem Tryz.direct216(w:World):(Rtype.directlyAssignable 216 216).run Tryz.prog w=.ok true w:=by kernel_rfl
theorem Tryz.set216(ta b:Nat)(p q:Int)(o1 o2:Value)(W:World)(hb:W.cell? ⟨b,0,none⟩=some (.int .i64 p))(hb2:W.cell? ⟨b,1,none⟩=some (.int .i64 q))(ht:W.cell? ⟨ta,0,none⟩=some o1)(ht2:W.cell? ⟨ta,1,none⟩=some o2)(hf:W.frozen? ⟨ta,0,none⟩=false)(hf2:W.frozen? ⟨ta,1,none⟩=false) :
 (ReflectliteValue.set #[.agg #[.pointer (some ⟨1,216,none⟩),.pointer (some ⟨ta,0,none⟩),.int .u64 409],.agg #[.pointer (some ⟨1,216,none⟩),.pointer (some ⟨b,0,none⟩),.int .u64 153]]).run Tryz.prog W
   = .ok (.tuple #[]) ((W.setCell ⟨ta,0,none⟩ (.int .i64 p)).setCell ⟨ta,1,none⟩ (.int .i64 q)):=by
 rw[rls]
 simp only[Sem.run_bind,Tryz.parts216a,Tryz.parts216,Result.andThen]
 simp[ReflectliteValue.flagAddr,loadVar,isAgg,underlying,Tryz.underlying216,hb,hb2,Result.andThen,Tryz.direct216,storeVar,Value.cells,storeCells,Addr.add]
 have hl:(loadCells { block:=b,off:=0 } 2).run Tryz.prog W=.ok #[.int .i64 p,.int .i64 q] W:=by
  simp[loadCells,loadCellsFrom,Sem.run_bind,run_load,Addr.add,hb,hb2,Result.andThen]
 rw[hl]
 simp only[List.size_toArray,List.length_cons,List.length_nil,Nat.zero_add,Nat.reduceAdd,not_true_eq_false,if_false]
 simp[storeCells,Sem.run_bind,Addr.add,Result.andThen]
 rw[run_store Tryz.prog W ⟨ta,0,none⟩ _ _ (by rfl)]
 simp[ht,hf]
 rw[run_store Tryz.prog _ ⟨ta,1,none⟩ _ _ (by rfl)]
 have h1:(W.setCell { block:=ta,off:=0 } (.int .i64 p)).cell? { block:=ta,off:=1 }=some o2:=by
  rw[World.cell?_setCell_other (h:=by simp)];exact ht2
 have h2:(W.setCell { block:=ta,off:=0 } (.int .i64 p)).frozen? { block:=ta,off:=1 }=false:=by
  simp[hf2]
 simp[h1,h2]
end Go.Proofs.YtjilhkjgejnmpaaGreatDoor
