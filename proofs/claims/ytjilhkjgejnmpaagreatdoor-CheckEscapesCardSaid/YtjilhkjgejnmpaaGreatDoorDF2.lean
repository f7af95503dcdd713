import Derived.Test.YtjilhkjgejnmpaaGreatDoorDF1
set_option linter.all false
noncomputable section
namespace Go.Proofs.YtjilhkjgejnmpaaGreatDoor
open Go.RowKit Go.Extern.Stop Go.Stop Go.Extern
theorem Tryz.unwrap(p q:Int)(w:World):Calls Tryz.prog 298 #[.agg #[.int .i64 p,.int .i64 q]] w fun ev w'=>ev=.returned (.iface 216 (.agg #[.int .i64 p,.int .i64 q]))∧w'=w.alloc (.cells #[.int .i64 p,.int .i64 q] 272):=by
 go_enter Tryz.func298,Tryz.ntmps298
 go_wp2
 go_ret
 exact⟨rfl,rfl⟩
theorem Tryz.lacksAs272(v:Value)(xT:TypeId)(w:World):(Instr.typeAssert (.iface 272 v) xT 322 true).run Tryz.prog w=.ok (.tuple #[.nilIface,.bool false]) w:=run_typeAssert_lacksB Tryz.underlying322 (by kernel_rfl) (by kernel_rfl) v xT w
theorem Tryz.hasUnwrap272(v:Value)(xT:TypeId)(w:World):(Instr.typeAssert (.iface 272 v) xT 325 true).run Tryz.prog w=.ok (.tuple #[.iface 272 v,.bool true]) w:=run_typeAssert_hasB Tryz.underlying325 (by kernel_rfl) v xT w
end Go.Proofs.YtjilhkjgejnmpaaGreatDoor
