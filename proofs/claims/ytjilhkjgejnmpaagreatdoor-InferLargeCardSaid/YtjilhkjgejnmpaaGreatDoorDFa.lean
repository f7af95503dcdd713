import Derived.Test.YtjilhkjgejnmpaaGreatDoorProg
import Derived.WalkKit
import Derived.LaidEql
import Derived.Stop.Asserts
import Derived.RowKitTokens
set_option linter.all false
noncomputable section
namespace Go.Proofs.YtjilhkjgejnmpaaGreatDoor
open Go.RowKit Go.Extern.Stop Go.Stop Go.Extern
theorem Tryz.valueOf218(t:Addr)(w:World):(ReflectliteValue.unpack (.iface 218 (.pointer (some t)))).run Tryz.prog w
 = .ok (.agg #[.pointer (some ⟨1,218,none⟩),.pointer (some ⟨w.heap.size,0,none⟩),.int .u64 150]) (w.alloc (.cells #[.pointer (some t)] 218)):=by kernel_rfl
theorem Tryz.type218 (a : Addr) (w : World) : (ReflectliteValue.methodAny (ReflectliteValue.valueError "reflectlite.Value.Type" 0) (fun t _ _ _ => ReflectliteType.toType t) #[.agg #[.pointer (some ⟨1, 218, none⟩), .pointer (some a), .int .u64 150]]).run Tryz.prog w
 = .ok (.iface 318 (.agg #[.pointer (some ⟨1,218,none⟩)])) w:=by kernel_rfl
theorem Tryz.kind218(w:World):((ReflectliteType.abiMethod fun t=>(fun a:Nat=>Value.int IntKind.u8 (a:Int)) <$> Rtype.kind t) #[.pointer (some ⟨1,218,none⟩)]).run Tryz.prog w=.ok (.int .u8 22) w:=by kernel_rfl
theorem Tryz.kind216(w:World):((ReflectliteType.abiMethod fun t=>(fun a:Nat=>Value.int IntKind.u8 (a:Int)) <$> Rtype.kind t) #[.pointer (some ⟨1,216,none⟩)]).run Tryz.prog w=.ok (.int .u8 25) w:=by kernel_rfl
theorem rlm(z:Sem Value)(f:TypeId→Addr→Nat→Nat→Sem Value)(v:Value) :
 ReflectliteValue.method z f #[v]=(do match ← ReflectliteValue.parts v with|none=>z|some (t,a,fl)=>f t a fl (fl % 32)):=rfl
theorem Tryz.parts218(a:Addr)(w:World):(ReflectliteValue.parts (.agg #[.pointer (some ⟨1,218,none⟩),.pointer (some a),.int .u64 150])).run Tryz.prog w=.ok (some (218,a,150)) w:=by kernel_rfl
theorem Tryz.isNil218(a p:Addr)(W:World)(ha:W.cell? a=some (.pointer (some p))) :
 (ReflectliteValue.method (ReflectliteValue.valueError "reflectlite.Value.IsNil" 0) ReflectliteValue.isNil #[.agg #[.pointer (some ⟨1, 218, none⟩), .pointer (some a), .int .u64 150]]).run Tryz.prog W = .ok (.bool false) W := by
 rw[rlm]
 simp only[Sem.run_bind,Tryz.parts218,Result.andThen]
 simp[ReflectliteValue.isNil,loadVar,isAgg,underlying,Tryz.underlying218,ha,Result.andThen,Tryz.parts218]
theorem Tryz.elem218(w:World):(ReflectliteType.method ReflectliteType.elem #[.agg #[.pointer (some ⟨1,218,none⟩)]]).run Tryz.prog w=.ok (.iface 318 (.agg #[.pointer (some ⟨1,216,none⟩)])) w:=by kernel_rfl
theorem Tryz.implements216 (w : World) : (ReflectliteType.relation "Implements" ReflectliteType.implements_ #[.agg #[.pointer (some ⟨1, 216, none⟩)], .iface 318 (.agg #[.pointer (some ⟨1, 143, none⟩)])]).run Tryz.prog w = .ok (.bool true) w := by kernel_rfl
theorem Tryz.typeOf(t:TypeId)(h:t=216∨t=272)(v:Value)(w:World):(ReflectliteType.typeOf #[.iface t v]).run Tryz.prog w=.ok (.iface 318 (.agg #[.pointer (some ⟨1,t,none⟩)])) w:=by
 rcases h with rfl|rfl<;>kernel_rfl
theorem Tryz.assignable (w : World) : (ReflectliteType.relation "AssignableTo" ReflectliteType.assignableTo #[.agg #[.pointer (some ⟨1, 216, none⟩)], .iface 318 (.agg #[.pointer (some ⟨1, 216, none⟩)])]).run Tryz.prog w = .ok (.bool true) w := by kernel_rfl
theorem Tryz.assignable0 (w : World) : (ReflectliteType.relation "AssignableTo" ReflectliteType.assignableTo #[.agg #[.pointer (some ⟨1, 272, none⟩)], .iface 318 (.agg #[.pointer (some ⟨1, 216, none⟩)])]).run Tryz.prog w = .ok (.bool false) w := by kernel_rfl
theorem Tryz.valueOf216(p q:Value)(w:World):(ReflectliteValue.unpack (.iface 216 (.agg #[p,q]))).run Tryz.prog w
 = .ok (.agg #[.pointer (some ⟨1,216,none⟩),.pointer (some ⟨w.heap.size,0,none⟩),.int .u64 153]) (w.alloc (.cells #[p,q] 216)):=by kernel_rfl
theorem Tryz.elemOf218(w:World):(Rtype.elem? 218).run Tryz.prog w=.ok (some 216) w:=by kernel_rfl
theorem Tryz.mk216(p:Addr)(w:World):(ReflectliteValue.mk 216 p ReflectliteValue.flagAddr).run Tryz.prog w=.ok (.agg #[.pointer (some ⟨1,216,none⟩),.pointer (some p),.int .u64 409]) w:=by kernel_rfl
theorem Tryz.elemV218(a p:Addr)(W:World)(ha:W.cell? a=some (.pointer (some p))) :
 (ReflectliteValue.method (ReflectliteValue.valueError "reflectlite.Value.Elem" 0) ReflectliteValue.elem #[.agg #[.pointer (some ⟨1, 218, none⟩), .pointer (some a), .int .u64 150]]).run Tryz.prog W
   = .ok (.agg #[.pointer (some ⟨1,216,none⟩),.pointer (some p),.int .u64 409]) W:=by
 rw[rlm]
 simp only[Sem.run_bind,Tryz.parts218,Result.andThen]
 simp[ReflectliteValue.elem,loadVar,isAgg,underlying,Tryz.underlying218,ha,Result.andThen,Tryz.elemOf218,Tryz.mk216]
theorem Tryz.methodKind (h : Value) (w : World) : (Go.method 478 318 (.agg #[h]) "Kind").run Tryz.prog w = .ok (291, h) w := by kernel_rfl
theorem Tryz.methodElem (h : Value) (w : World) : (Go.method 478 318 (.agg #[h]) "Elem").run Tryz.prog w = .ok (305, .agg #[h]) w := by kernel_rfl
theorem Tryz.methodImplements (h : Value) (w : World) : (Go.method 478 318 (.agg #[h]) "Implements").run Tryz.prog w = .ok (306, .agg #[h]) w := by kernel_rfl
theorem Tryz.methodAssignableTo (h : Value) (w : World) : (Go.method 478 318 (.agg #[h]) "AssignableTo").run Tryz.prog w = .ok (303, .agg #[h]) w := by kernel_rfl
theorem Tryz.methodUnwrap (h k : Value) (w : World) : (Go.method 478 272 (.agg #[h, k]) "Unwrap").run Tryz.prog w = .ok (298, .agg #[h, k]) w := by kernel_rfl
theorem rls (v x:Value):ReflectliteValue.set #[v,x]=(do
 let (some (dst,a,fl),some (src,b,_)):=(← ReflectliteValue.parts v,← ReflectliteValue.parts x)
  | unsupported (.noEntry "extern/(internal/reflectlite.Value).Set.zeroValue")
 if fl / ReflectliteValue.flagAddr % 2 == 0 then unsupported (.noEntry "extern/(internal/reflectlite.Value).Set.unaddressable")
 let val ← loadVar src b
 if ← Rtype.directlyAssignable dst src then storeVar dst a val
 else if ← Rtype.implements dst src then
  if (← Rtype.kind src) == 20 then
   match val with
   | .nilIface => unsupported (.noEntry "extern/reflectlite: a nil value of one interface type handed on as a value of another")
   |_=>storeVar dst a val
  else storeVar dst a (.iface src val)
 else panicString ("reflectlite.Set: value of type " ++ (← Rtype.spelt src) ++ " is not assignable to type " ++ (← Rtype.spelt dst))
 pure (.tuple #[])):=rfl
theorem Tryz.parts216a(a:Addr)(w:World):(ReflectliteValue.parts (.agg #[.pointer (some ⟨1,216,none⟩),.pointer (some a),.int .u64 409])).run Tryz.prog w=.ok (some (216,a,409)) w:=by kernel_rfl
theorem Tryz.parts216(a:Addr)(w:World):(ReflectliteValue.parts (.agg #[.pointer (some ⟨1,216,none⟩),.pointer (some a),.int .u64 153])).run Tryz.prog w=.ok (some (216,a,153)) w:=by kernel_rfl
theorem Tryz.direct216(w:World):(Rtype.directlyAssignable 216 216).run Tryz.prog w=.ok true w:=by kernel_rfl
theorem Tryz.set216(ta b:Nat)(p q:Int)(o1 o2:Value)(W:World)(hb:W.cell? ⟨b,0,none⟩=some (.int .i64 p))(hb2:W.cell? ⟨b,1,none⟩=some (.int .i64 q))(ht:W.cell? ⟨ta,0,none⟩=some o1)(ht2:W.cell? ⟨ta,1,none⟩=some o2)(hf:W.frozen? ⟨ta,0,none⟩=false)(hf2:W.frozen? ⟨ta,1,none⟩=false) :
 (ReflectliteValue.set #[.agg #[.pointer (some ⟨1,216,none⟩),.pointer (some ⟨ta,0,none⟩),.int .u64 409],.agg #[.pointer (some ⟨1,216,none⟩),.pointer (some ⟨b,0,none⟩),.int .u64 153]]).run Tryz.prog W
   = .ok (.tuple #[]) ((W.setCell ⟨ta,0,none⟩ (.int .i64 p)).setCell ⟨ta,1,none⟩ (.int .i64 q)):=by
 rw[rls]
 simp only[Sem.run_bind,Tryz.parts216a,Tryz.parts216,Result.andThen]
 simp[ReflectliteValue.flagAddr,loadVar,isAgg,underlying,Tryz.underlying216,hb,hb2,Result.andThen,Tryz.direct216,storeVar,Value.cells,storeCells,Addr.add]
 have hl:(loadCells { block:=b,off:=0 } 2).run Tryz.prog W=.ok #[.int .i64 p,.int .i64 q] W:=by
  simp[loadCells,loadCellsFrom,Sem.run_bind,run_load,Addr.add,hb,hb2,Result.andThen]
 rw[hl]
 simp only[List.size_toArray,List.length_cons,List.length_nil,Nat.zero_add,Nat.reduceAdd,not_true_eq_false,if_false]
 simp[storeCells,Sem.run_bind,Addr.add,Result.andThen]
 rw[run_store Tryz.prog W ⟨ta,0,none⟩ _ _ (by rfl)]
 simp[ht,hf]
 rw[run_store Tryz.prog _ ⟨ta,1,none⟩ _ _ (by rfl)]
 have h1:(W.setCell { block:=ta,off:=0 } (.int .i64 p)).cell? { block:=ta,off:=1 }=some o2:=by
  rw[World.cell?_setCell_other (h:=by simp)];exact ht2
 have h2:(W.setCell { block:=ta,off:=0 } (.int .i64 p)).frozen? { block:=ta,off:=1 }=false:=by
  simp[hf2]
 simp[h1,h2]
end Go.Proofs.YtjilhkjgejnmpaaGreatDoor
namespace Go.Proofs.YtjilhkjgejnmpaaGreatDoor
open Go.RowKit Go.Extern.Stop Go.Stop Go.Extern
theorem Tryz.unwrap(p q:Int)(w:World):Calls Tryz.prog 298 #[.agg #[.int .i64 p,.int .i64 q]] w fun ev w'=>ev=.returned (.iface 216 (.agg #[.int .i64 p,.int .i64 q]))∧w'=w.alloc (.cells #[.int .i64 p,.int .i64 q] 272):=by
 go_enter Tryz.func298,Tryz.ntmps298
 go_wp2
 go_ret
 exact⟨rfl,rfl⟩
theorem Tryz.lacksAs272(v:Value)(xT:TypeId)(w:World):(Instr.typeAssert (.iface 272 v) xT 322 true).run Tryz.prog w=.ok (.tuple #[.nilIface,.bool false]) w:=run_typeAssert_lacksB Tryz.underlying322 (by kernel_rfl) (by kernel_rfl) v xT w
theorem Tryz.hasUnwrap272(v:Value)(xT:TypeId)(w:World):(Instr.typeAssert (.iface 272 v) xT 325 true).run Tryz.prog w=.ok (.tuple #[.iface 272 v,.bool true]) w:=run_typeAssert_hasB Tryz.underlying325 (by kernel_rfl) v xT w
end Go.Proofs.YtjilhkjgejnmpaaGreatDoor
namespace Go.Proofs.YtjilhkjgejnmpaaGreatDoor
open Go.RowKit Go.Extern.Stop Go.Stop Go.Extern
set_option maxHeartbeats 4000000
set_option maxRecDepth 100000
theorem as_chain(ta vb:Nat)(p q:Int)(o1 o2:Value)(w:World)(hv:w.cell? ⟨vb,0,none⟩=some (.pointer (some ⟨ta,0,none⟩)))(ht:w.cell? ⟨ta,0,none⟩=some o1)(ht2:w.cell? ⟨ta,1,none⟩=some o2)(hf:w.frozen? ⟨ta,0,none⟩=false)(hf2:w.frozen? ⟨ta,1,none⟩=false) :
 Calls Tryz.prog 224 #[.iface 272 (.agg #[.int .i64 p,.int .i64 q]),.iface 218 (.pointer (some ⟨ta,0,none⟩)),.agg #[.pointer (some ⟨1,218,none⟩),.pointer (some ⟨vb,0,none⟩),.int .u64 150],.iface 318 (.agg #[.pointer (some ⟨1,216,none⟩)])] w
  fun ev w'=>ev=.returned (.bool true)∧w'=((((w.alloc (.cells #[.pointer (some ⟨1,218,none⟩),.pointer (some ⟨vb,0,none⟩),.int .u64 150] 278)).alloc (.cells #[.int .i64 p,.int .i64 q] 272)).alloc (.cells #[.int .i64 p,.int .i64 q] 216)).setCell ⟨ta,0,none⟩ (.int .i64 p)).setCell ⟨ta,1,none⟩ (.int .i64 q):=by
 have lt:∀ {b i:Nat} {v:Value},w.cell? ⟨b,i,none⟩=some v→b<w.heap.size:=by
  intro b i v h
  rcases Nat.lt_or_ge b w.heap.size with h1|h1
  · exact h1
  · simp[World.cell?,Array.getElem?_eq_none h1]at h
 have hvl:=lt hv
 have htl:=lt ht
 have h221:=@run_callFunc_extern Tryz.prog 221 _ (fun args=>ReflectliteValue.unpack (args.getD 0 (.tuple #[]))) Tryz.func221 (by kernel_rfl) (by kernel_rfl) (by kernel_rfl) (by kernel_rfl)
 have h237:=@run_callFunc_extern Tryz.prog 237 _ ReflectliteType.typeOf Tryz.func237 (by kernel_rfl) (by kernel_rfl) (by kernel_rfl) (by kernel_rfl)
 have h303 := @run_callFunc_extern Tryz.prog 303 _ (ReflectliteType.relation "AssignableTo" ReflectliteType.assignableTo) Tryz.func303 (by kernel_rfl) (by kernel_rfl) (by kernel_rfl) (by kernel_rfl)
 have h256 := @run_callFunc_extern Tryz.prog 256 _ (ReflectliteValue.method (ReflectliteValue.valueError "reflectlite.Value.Elem" 0) ReflectliteValue.elem) Tryz.func256 (by kernel_rfl) (by kernel_rfl) (by kernel_rfl) (by kernel_rfl)
 have h257:=@run_callFunc_extern Tryz.prog 257 _ ReflectliteValue.set Tryz.func257 (by kernel_rfl) (by kernel_rfl) (by kernel_rfl) (by kernel_rfl)
 have tO1:=Tryz.typeOf 272 (.inr rfl)
 have tO2:=Tryz.typeOf 216 (.inl rfl)
 have mA:=Tryz.methodAssignableTo
 have mU:=Tryz.methodUnwrap
 have a0:=Tryz.assignable0
 have a1:=Tryz.assignable
 have v216:=Tryz.valueOf216 (.int .i64 p) (.int .i64 q)
 have l1:=Tryz.lacksAs272 (.agg #[.int .i64 p,.int .i64 q])
 have l2:=Tryz.hasUnwrap272 (.agg #[.int .i64 p,.int .i64 q])
 have el:=Tryz.elemV218 ⟨vb,0,none⟩ ⟨ta,0,none⟩ ((w.alloc (.cells #[.pointer (some ⟨1,218,none⟩),.pointer (some ⟨vb,0,none⟩),.int .u64 150] 278)).alloc (.cells #[.int .i64 p,.int .i64 q] 272))
  (by rw[World.cell?_alloc_lt _ _ ⟨vb,0,none⟩ (by simp;omega),World.cell?_alloc_lt _ _ ⟨vb,0,none⟩ hvl];exact hv)
 have st:=Tryz.set216 ta (w.heap.size+1+1) p q o1 o2 (((w.alloc (.cells #[.pointer (some ⟨1,218,none⟩),.pointer (some ⟨vb,0,none⟩),.int .u64 150] 278)).alloc (.cells #[.int .i64 p,.int .i64 q] 272)).alloc (.cells #[.int .i64 p,.int .i64 q] 216))
  (by rw[World.cell?_alloc_at _ _ _ _ (by simp)];rfl) (by rw[World.cell?_alloc_at _ _ _ _ (by simp)];rfl)
  (by rw[World.cell?_alloc_lt _ _ ⟨ta,0,none⟩ (by simp;omega),World.cell?_alloc_lt _ _ ⟨ta,0,none⟩ (by simp;omega),World.cell?_alloc_lt _ _ ⟨ta,0,none⟩ htl];exact ht)
  (by rw[World.cell?_alloc_lt _ _ ⟨ta,1,none⟩ (by simp;omega),World.cell?_alloc_lt _ _ ⟨ta,1,none⟩ (by simp;omega),World.cell?_alloc_lt _ _ ⟨ta,1,none⟩ htl];exact ht2)
  (by rw[World.frozen?_alloc_old _ _ ⟨ta,0,none⟩ (by simp;omega),World.frozen?_alloc_old _ _ ⟨ta,0,none⟩ (by simp;omega),World.frozen?_alloc_old _ _ ⟨ta,0,none⟩ (Nat.ne_of_lt htl)];exact hf)
  (by rw[World.frozen?_alloc_old _ _ ⟨ta,1,none⟩ (by simp;omega),World.frozen?_alloc_old _ _ ⟨ta,1,none⟩ (by simp;omega),World.frozen?_alloc_old _ _ ⟨ta,1,none⟩ (Nat.ne_of_lt htl)];exact hf2)
 go_enter Tryz.func224,Tryz.ntmps224
 go_wp2
 refine wp_loop_rounds 2 ?_
 rw[rounds_succ]
 go_wp2_with (go_at_call 298;refine(Tryz.unwrap p q _).mono ?_;rintro e w' ⟨rfl,rfl⟩)
 rw[rounds_succ]
 go_wp2
 go_ret
 exact⟨rfl,rfl⟩
end Go.Proofs.YtjilhkjgejnmpaaGreatDoor
namespace Go.Proofs.YtjilhkjgejnmpaaGreatDoor
open Go.RowKit Go.Extern.Stop Go.Stop Go.Extern
set_option maxHeartbeats 4000000
set_option maxRecDepth 100000
theorem as_fault(ta:Nat)(p q:Int)(o1 o2:Value)(w:World)(hg:w.cell? ⟨0,0,none⟩=some (.iface 318 (.agg #[.pointer (some ⟨1,143,none⟩)])))(ht:w.cell? ⟨ta,0,none⟩=some o1)(ht2:w.cell? ⟨ta,1,none⟩=some o2)(hf:w.frozen? ⟨ta,0,none⟩=false)(hf2:w.frozen? ⟨ta,1,none⟩=false) :
 Calls Tryz.prog 148 #[.iface 272 (.agg #[.int .i64 p,.int .i64 q]),.iface 218 (.pointer (some ⟨ta,0,none⟩))] w
  fun ev w'=>ev=.returned (.bool true)∧w'=((((((w.alloc (.cells #[.pointer (some ⟨ta,0,none⟩)] 218)).alloc (.cells #[.pointer (some ⟨1,218,none⟩),.pointer (some ⟨w.heap.size,0,none⟩),.int .u64 150] 278)).alloc (.cells #[.pointer (some ⟨1,218,none⟩),.pointer (some ⟨w.heap.size,0,none⟩),.int .u64 150] 278)).alloc (.cells #[.int .i64 p,.int .i64 q] 272)).alloc (.cells #[.int .i64 p,.int .i64 q] 216)).setCell ⟨ta,0,none⟩ (.int .i64 p)).setCell ⟨ta,1,none⟩ (.int .i64 q):=by
 have lt:∀ {b i:Nat} {v:Value},w.cell? ⟨b,i,none⟩=some v→b<w.heap.size:=by
  intro b i v h
  rcases Nat.lt_or_ge b w.heap.size with h1|h1
  · exact h1
  · simp[World.cell?,Array.getElem?_eq_none h1]at h
 have hgl:=lt hg
 have htl:=lt ht
 have h221:=@run_callFunc_extern Tryz.prog 221 _ (fun args=>ReflectliteValue.unpack (args.getD 0 (.tuple #[]))) Tryz.func221 (by kernel_rfl) (by kernel_rfl) (by kernel_rfl) (by kernel_rfl)
 have h222 := @run_callFunc_extern Tryz.prog 222 _ (ReflectliteValue.methodAny (ReflectliteValue.valueError "reflectlite.Value.Type" 0) (fun t _ _ _ => ReflectliteType.toType t)) Tryz.func222 (by kernel_rfl) (by kernel_rfl) (by kernel_rfl) (by kernel_rfl)
 have h223 := @run_callFunc_extern Tryz.prog 223 _ (ReflectliteValue.method (ReflectliteValue.valueError "reflectlite.Value.IsNil" 0) ReflectliteValue.isNil) Tryz.func223 (by kernel_rfl) (by kernel_rfl) (by kernel_rfl) (by kernel_rfl)
 have h291:=@run_callFunc_extern Tryz.prog 291 _ (ReflectliteType.abiMethod fun t=>do pure (.int .u8 (← Rtype.kind t))) Tryz.func291 (by kernel_rfl) (by kernel_rfl) (by kernel_rfl) (by kernel_rfl)
 have h305:=@run_callFunc_extern Tryz.prog 305 _ (ReflectliteType.method ReflectliteType.elem) Tryz.func305 (by kernel_rfl) (by kernel_rfl) (by kernel_rfl) (by kernel_rfl)
 have h306 := @run_callFunc_extern Tryz.prog 306 _ (ReflectliteType.relation "Implements" ReflectliteType.implements_) Tryz.func306 (by kernel_rfl) (by kernel_rfl) (by kernel_rfl) (by kernel_rfl)
 have f6:=Tryz.valueOf218
 have f7:=Tryz.type218
 have mK:=Tryz.methodKind
 have mE:=Tryz.methodElem
 have mI:=Tryz.methodImplements
 have k1:=Tryz.kind218
 have k2:=Tryz.kind216
 have e1:=Tryz.elem218
 have i1:=Tryz.implements216
 have n8:=Tryz.isNil218 ⟨w.heap.size,0,none⟩ ⟨ta,0,none⟩ ((w.alloc (.cells #[.pointer (some ⟨ta,0,none⟩)] 218)).alloc (.cells #[.pointer (some ⟨1,218,none⟩),.pointer (some ⟨w.heap.size,0,none⟩),.int .u64 150] 278)) (by rw[World.cell?_alloc_lt _ _ ⟨w.heap.size,0,none⟩ (by simp)];simp)
 have hg2:((w.alloc (.cells #[.pointer (some ⟨ta,0,none⟩)] 218)).alloc (.cells #[.pointer (some ⟨1,218,none⟩),.pointer (some ⟨w.heap.size,0,none⟩),.int .u64 150] 278)).cell? ⟨0,0,none⟩=some (.iface 318 (.agg #[.pointer (some ⟨1,143,none⟩)])):=by
  rw[World.cell?_alloc_lt _ _ ⟨0,0,none⟩ (by simp),World.cell?_alloc_lt _ _ ⟨0,0,none⟩ hgl];exact hg
 have ac:=as_chain ta w.heap.size p q o1 o2 ((w.alloc (.cells #[.pointer (some ⟨ta,0,none⟩)] 218)).alloc (.cells #[.pointer (some ⟨1,218,none⟩),.pointer (some ⟨w.heap.size,0,none⟩),.int .u64 150] 278))
  (by rw[World.cell?_alloc_lt _ _ ⟨w.heap.size,0,none⟩ (by simp)];simp)
  (by rw[World.cell?_alloc_lt _ _ ⟨ta,0,none⟩ (by simp;omega),World.cell?_alloc_lt _ _ ⟨ta,0,none⟩ htl];exact ht)
  (by rw[World.cell?_alloc_lt _ _ ⟨ta,1,none⟩ (by simp;omega),World.cell?_alloc_lt _ _ ⟨ta,1,none⟩ htl];exact ht2)
  (by rw[World.frozen?_alloc_old _ _ ⟨ta,0,none⟩ (by simp;omega),World.frozen?_alloc_old _ _ ⟨ta,0,none⟩ (Nat.ne_of_lt htl)];exact hf)
  (by rw[World.frozen?_alloc_old _ _ ⟨ta,1,none⟩ (by simp;omega),World.frozen?_alloc_old _ _ ⟨ta,1,none⟩ (Nat.ne_of_lt htl)];exact hf2)
 go_enter Tryz.func148,Tryz.ntmps148
 go_wp2_with (go_at_call 224;refine ac.mono ?_;rintro e w' ⟨rfl,rfl⟩)
 go_ret
 exact⟨rfl,rfl⟩
end Go.Proofs.YtjilhkjgejnmpaaGreatDoor
namespace Go.Proofs.YtjilhkjgejnmpaaGreatDoor
open Go.RowKit Go.Extern.Stop Go.Stop Go.Extern
set_option maxHeartbeats 4000000
set_option maxRecDepth 100000
theorem fault_calls(p q:Int)(w:World)(hg:w.cell? ⟨0,0,none⟩=some (.iface 318 (.agg #[.pointer (some ⟨1,143,none⟩)]))) :
 Calls Tryz.prog 58 #[.iface 272 (.agg #[.int .i64 p,.int .i64 q])] w
  fun ev w'=>ev=.returned (.agg #[.int .i64 q,.int .i64 p])∧(w'.os=w.os∧w'.tape=w.tape∧w'.output=w.output)∧w.heap.size≤w'.heap.size∧∀ b,b<w.heap.size→w'.heap[b]?=w.heap[b]?:=by
 have hgl:0<w.heap.size:=by
  rcases Nat.eq_zero_or_pos w.heap.size with h0|h
  · simp[World.cell?,h0]at hg
  · exact h
 have ac:=as_fault (w.heap.size+1) p q (.int .i64 0) (.int .i64 0) ((w.alloc (.cells #[.int .i64 0,.int .i64 0] 47)).alloc (.cells #[.int .i64 0,.int .i64 0] 216))
  (by rw[World.cell?_alloc_lt _ _ ⟨0,0,none⟩ (by simp),World.cell?_alloc_lt _ _ ⟨0,0,none⟩ hgl];exact hg)
  (by rw[World.cell?_alloc_at _ _ _ _ (by simp)];rfl) (by rw[World.cell?_alloc_at _ _ _ _ (by simp)];rfl) (by simp) (by simp)
 go_enter Tryz.func58,Tryz.ntmps58
 go_wp2_with (go_at_call 148;refine ac.mono ?_;rintro e w' ⟨rfl,rfl⟩)
 have hh:∀ (W:World) (o:Obj) (b:Nat),b<W.heap.size→(W.alloc o).heap[b]?=W.heap[b]?:=fun W o b hb=>by
  show (W.heap.push o)[b]?=_
  rw[Array.getElem?_push,if_neg (Nat.ne_of_lt hb)]
 have hs:∀ (W:World) (o:Obj),(W.alloc o).heap.size=W.heap.size+1:=fun W o=>Array.size_push ..
 refine bodyPost_ret (v:=.agg #[.int .i64 q,.int .i64 p]) ?_ rfl ?_
 · have hres:Tryz.f58.results=#[.cell 2 47]:=by kernel_rfl
   simp only[results,hres]
   go_simp
 · refine⟨rfl,⟨rfl,rfl,rfl⟩,by simp only[hs];omega,fun b hb=>?_⟩
   rw[hh _ _ _ (by simp only[hs];omega),hh _ _ _ (by simp only[hs];omega),hh _ _ _ (by simp only[hs];omega),hh _ _ _ (by simp only[hs];omega),hh _ _ _ (by simp only[hs];omega),hh _ _ _ (by simp only[hs];omega),hh _ _ _ hb]
end Go.Proofs.YtjilhkjgejnmpaaGreatDoor
namespace Go.Proofs.YtjilhkjgejnmpaaGreatDoor
open Go.RowKit Go.Extern.Stop Go.Stop Go.Extern
set_option maxHeartbeats 4000000
set_option maxRecDepth 100000
theorem Tryz.unwrapS(p q:Int)(w:World):Calls Tryz.prog 296 #[.agg #[.int .i64 p,.int .i64 q]] w fun ev w'=>ev=.returned (.iface 214 (.int .i64 q))∧w'=w.alloc (.cells #[.int .i64 p,.int .i64 q] 216):=by
 go_enter Tryz.func296,Tryz.ntmps296
 go_wp2
 go_ret
 exact⟨rfl,rfl⟩
theorem Tryz.methodUnwrapS (h k : Value) (w : World) : (Go.method 478 216 (.agg #[h, k]) "Unwrap").run Tryz.prog w = .ok (296, .agg #[h, k]) w := by kernel_rfl
theorem Tryz.methodComparable (h : Value) (w : World) : (Go.method 478 318 (.agg #[h]) "Comparable").run Tryz.prog w = .ok (304, .agg #[h]) w := by kernel_rfl
theorem Tryz.typeOf214(v:Value)(w:World):(ReflectliteType.typeOf #[.iface 214 v]).run Tryz.prog w=.ok (.iface 318 (.agg #[.pointer (some ⟨1,214,none⟩)])) w:=by kernel_rfl
theorem Tryz.lacksIs(t:TypeId)(h:t=272∨t=216∨t=214)(v:Value)(xT:TypeId)(w:World):(Instr.typeAssert (.iface t v) xT 333 true).run Tryz.prog w=.ok (.tuple #[.nilIface,.bool false]) w:=by
 rcases h with rfl|rfl|rfl<;>exact run_typeAssert_lacksB Tryz.underlying333 (by kernel_rfl) (by kernel_rfl) v xT w
theorem Tryz.hasUnwrap216(v:Value)(xT:TypeId)(w:World):(Instr.typeAssert (.iface 216 v) xT 325 true).run Tryz.prog w=.ok (.tuple #[.iface 216 v,.bool true]) w:=run_typeAssert_hasB Tryz.underlying325 (by kernel_rfl) v xT w
theorem Tryz.lacksUnwrap214(v:Value)(xT:TypeId)(w:World):(Instr.typeAssert (.iface 214 v) xT 325 true).run Tryz.prog w=.ok (.tuple #[.nilIface,.bool false]) w:=run_typeAssert_lacksB Tryz.underlying325 (by kernel_rfl) (by kernel_rfl) v xT w
theorem Tryz.lacksUnwraps214(v:Value)(xT:TypeId)(w:World):(Instr.typeAssert (.iface 214 v) xT 327 true).run Tryz.prog w=.ok (.tuple #[.nilIface,.bool false]) w:=run_typeAssert_lacksB Tryz.underlying327 (by kernel_rfl) (by kernel_rfl) v xT w
theorem Tryz.eq214(q c:Int)(w:World):(binOp .eql 143 (.iface 214 (.int .i64 q)) (.iface 214 (.int .i64 c))).run Tryz.prog w=.ok (.bool (q == c)) w:=by
 have h:∀ d:Nat,(Op.equalIn (d+2) 143 (.iface 214 (.int .i64 q)) (.iface 214 (.int .i64 c))).run Tryz.prog w=.ok (q == c) w:=fun d=>by
  have hc:((typeInfo 214).run Tryz.prog w)=.ok (Tryz.prog.info? 214).get! w:=by kernel_rfl
  have hc2:(Tryz.prog.info? 214).get!.comparable=true:=by kernel_rfl
  simp[Op.equalIn,run_underlying Tryz.underlying143,run_underlying Tryz.underlying214,hc,hc2,Sem.run_bind]
 simp only[binOp]
 simp[Op.equal,Op.maxDepth,h 9998]
end Go.Proofs.YtjilhkjgejnmpaaGreatDoor
namespace Go.Proofs.YtjilhkjgejnmpaaGreatDoor
open Go.RowKit Go.Extern.Stop Go.Stop Go.Extern Go.Extern.Rtype
set_option maxHeartbeats 4000000
set_option maxRecDepth 100000
theorem Tryz.comparable214 (w : World) : (ReflectliteType.method (fun t => do noPackHeld "Comparable" t; (fun a => Value.bool a.comparable) <$> typeInfo t) #[.agg #[.pointer (some ⟨1, 214, none⟩)]]).run Tryz.prog w = .ok (.bool true) w := by kernel_rfl
theorem is_chain(p q c:Int)(w:World) :
 Calls Tryz.prog 238 #[.iface 272 (.agg #[.int .i64 p,.int .i64 q]),.iface 214 (.int .i64 c),.bool true] w
  fun ev w'=>ev=.returned (.bool (q == c))∧w'=(w.alloc (.cells #[.int .i64 p,.int .i64 q] 272)).alloc (.cells #[.int .i64 p,.int .i64 q] 216):=by
 have mU:=Tryz.methodUnwrap
 have mS:=Tryz.methodUnwrapS
 have l1:=Tryz.lacksIs 272 (.inl rfl) (.agg #[.int .i64 p,.int .i64 q])
 have l2:=Tryz.lacksIs 216 (.inr (.inl rfl)) (.agg #[.int .i64 p,.int .i64 q])
 have l3:=Tryz.lacksIs 214 (.inr (.inr rfl)) (.int .i64 q)
 have u1:=Tryz.hasUnwrap272 (.agg #[.int .i64 p,.int .i64 q])
 have u2:=Tryz.hasUnwrap216 (.agg #[.int .i64 p,.int .i64 q])
 have u3:=Tryz.lacksUnwrap214 (.int .i64 q)
 have u4:=Tryz.lacksUnwraps214 (.int .i64 q)
 have q1:∀ (x y:Value) (w:World),(binOp .eql 143 (.iface 272 x) (.iface 214 y)).run Tryz.prog w=.ok (.bool false) w:=fun x y w=>run_eql_iface_types 272 214 x y Tryz.underlying143 (by decide) w
 have q2:∀ (x y:Value) (w:World),(binOp .eql 143 (.iface 216 x) (.iface 214 y)).run Tryz.prog w=.ok (.bool false) w:=fun x y w=>run_eql_iface_types 216 214 x y Tryz.underlying143 (by decide) w
 by_cases hqc:q=c
 · subst hqc
   have q3:∀ w:World,(binOp .eql 143 (.iface 214 (.int .i64 q)) (.iface 214 (.int .i64 q))).run Tryz.prog w=.ok (.bool true) w:=fun w=>by rw[Tryz.eq214,beq_self_eq_true]
   rw[beq_self_eq_true]
   go_enter Tryz.func238,Tryz.ntmps238
   go_wp2
   refine wp_loop_rounds 3 ?_
   rw[rounds_succ]
   go_wp2_with (first|(go_at_call 298;refine(Tryz.unwrap p q _).mono ?_;rintro e w' ⟨rfl,rfl⟩)|(go_at_call 296;refine(Tryz.unwrapS p q _).mono ?_;rintro e w' ⟨rfl,rfl⟩))
   rw[rounds_succ]
   go_wp2_with (first|(go_at_call 298;refine(Tryz.unwrap p q _).mono ?_;rintro e w' ⟨rfl,rfl⟩)|(go_at_call 296;refine(Tryz.unwrapS p q _).mono ?_;rintro e w' ⟨rfl,rfl⟩))
   rw[rounds_succ]
   go_wp2
   go_ret
   exact⟨rfl,rfl⟩
 · have q3:∀ w:World,(binOp .eql 143 (.iface 214 (.int .i64 q)) (.iface 214 (.int .i64 c))).run Tryz.prog w=.ok (.bool false) w:=fun w=>by rw[Tryz.eq214,show (q == c)=false from by simpa using hqc]
   rw[show (q == c)=false from by simpa using hqc]
   go_enter Tryz.func238,Tryz.ntmps238
   go_wp2
   refine wp_loop_rounds 3 ?_
   rw[rounds_succ]
   go_wp2_with (first|(go_at_call 298;refine(Tryz.unwrap p q _).mono ?_;rintro e w' ⟨rfl,rfl⟩)|(go_at_call 296;refine(Tryz.unwrapS p q _).mono ?_;rintro e w' ⟨rfl,rfl⟩))
   rw[rounds_succ]
   go_wp2_with (first|(go_at_call 298;refine(Tryz.unwrap p q _).mono ?_;rintro e w' ⟨rfl,rfl⟩)|(go_at_call 296;refine(Tryz.unwrapS p q _).mono ?_;rintro e w' ⟨rfl,rfl⟩))
   rw[rounds_succ]
   go_wp2
   go_ret
   exact⟨rfl,rfl⟩
theorem is_calls(p q c:Int)(w:World) :
 Calls Tryz.prog 182 #[.iface 272 (.agg #[.int .i64 p,.int .i64 q]),.iface 214 (.int .i64 c)] w
  fun ev w'=>ev=.returned (.bool (q == c))∧w'=(w.alloc (.cells #[.int .i64 p,.int .i64 q] 272)).alloc (.cells #[.int .i64 p,.int .i64 q] 216):=by
 have h237:=@run_callFunc_extern Tryz.prog 237 _ ReflectliteType.typeOf Tryz.func237 (by kernel_rfl) (by kernel_rfl) (by kernel_rfl) (by kernel_rfl)
 have h304 := @run_callFunc_extern Tryz.prog 304 _ (ReflectliteType.method fun t => do noPackHeld "Comparable" t; pure (.bool (← typeInfo t).comparable)) Tryz.func304 (by kernel_rfl) (by kernel_rfl) (by kernel_rfl) (by kernel_rfl)
 have tO:=Tryz.typeOf214 (.int .i64 c)
 have mC:=Tryz.methodComparable
 have cc:=Tryz.comparable214
 go_enter Tryz.func182,Tryz.ntmps182
 go_wp2_with (go_at_call 238;refine(is_chain p q c _).mono ?_;rintro e w' ⟨rfl,rfl⟩)
 go_ret
 exact⟨rfl,rfl⟩
end Go.Proofs.YtjilhkjgejnmpaaGreatDoor
