import Derived.Test.YtjilhkjgejnmpaaGreatDoorDF2
set_option linter.all false
noncomputable section
namespace Go.Proofs.YtjilhkjgejnmpaaGreatDoor
open Go.RowKit Go.Extern.Stop Go.Stop Go.Extern
set_option maxHeartbeats 4000000
set_option maxRecDepth 100000
theorem Tryz.unwrapS(p q:Int)(w:World):Calls Tryz.prog 296 #[.agg #[.int .i64 p,.int .i64 q]] w fun ev w'=>ev=.returned (.iface 214 (.int .i64 q))∧w'=w.alloc (.cells #[.int .i64 p,.int .i64 q] 216):=by
 go_enter Tryz.func296,Tryz.ntmps296
 go_wp2
 go_ret
 exact⟨rfl,rfl⟩
theorem Tryz.methodUnwrapS (h k : Value) (w : World) : (Go.method 478 216 (.agg #[h, k]) "Unwrap").run Tryz.prog w = .ok (296, .agg #[h, k]) w := by kernel_rfl
theorem Tryz.methodComparable (h : Value) (w : World) : (Go.method 478 318 (.agg #[h]) "Comparable").run Tryz.prog w = .ok (304, .agg #[h]) w := by kernel_rfl
theorem Tryz.typeOf214(v:Value)(w:World):(ReflectliteType.typeOf #[.iface 214 v]).run Tryz.prog w=.ok (.iface 318 (.agg #[.pointer (some ⟨1,214,none⟩)])) w:=by kernel_rfl
theorem Tryz.lacksIs(t:TypeId)(h:t=272∨t=216∨t=214)(v:Value)(xT:TypeId)(w:World):(Instr.typeAssert (.iface t v) xT 333 true).run Tryz.prog w=.ok (.tuple #[.nilIface,.bool false]) w:=by
 rcases h with rfl|rfl|rfl<;>exact run_typeAssert_lacksB Tryz.underlying333 (by kernel_rfl) (by kernel_rfl) v xT w
theorem Tryz.hasUnwrap216(v:Value)(xT:TypeId)(w:World):(Instr.typeAssert (.iface 216 v) xT 325 true).run Tryz.prog w=.ok (.tuple #[.iface 216 v,.bool true]) w:=run_typeAssert_hasB Tryz.underlying325 (by kernel_rfl) v xT w
theorem Tryz.lacksUnwrap214(v:Value)(xT:TypeId)(w:World):(Instr.typeAssert (.iface 214 v) xT 325 true).run Tryz.prog w=.ok (.tuple #[.nilIface,.bool false]) w:=run_typeAssert_lacksB Tryz.underlying325 (by kernel_rfl) (by kernel_rfl) v xT w
theorem Tryz.lacksUnwraps214(v:Value)(xT:TypeId)(w:World):(Instr.typeAssert (.iface 214 v) xT 327 true).run Tryz.prog w=.ok (.tuple #[.nilIface,.bool false]) w:=run_typeAssert_lacksB Tryz.underlying327 (by kernel_rfl) (by kernel_rfl) v xT w
theorem Tryz.eq214(q c:Int)(w:World):(binOp .eql 143 (.iface 214 (.int .i64 q)) (.iface 214 (.int .i64 c))).run Tryz.prog w=.ok (.bool (q == c)) w:=by
 have h:∀ d:Nat,(Op.equalIn (d+2) 143 (.iface 214 (.int .i64 q)) (.iface 214 (.int .i64 c))).run Tryz.prog w=.ok (q == c) w:=fun d=>by
  have hc:((typeInfo 214).run Tryz.prog w)=.ok (Tryz.prog.info? 214).get! w:=by kernel_rfl
  have hc2:(Tryz.prog.info? 214).get!.comparable=true:=by kernel_rfl
  simp[Op.equalIn,run_underlying Tryz.underlying143,run_underlying Tryz.underlying214,hc,hc2,Sem.run_bind]
 simp only[binOp]
 simp[Op.equal,Op.maxDepth,h 9998]
end Go.Proofs.YtjilhkjgejnmpaaGreatDoor
