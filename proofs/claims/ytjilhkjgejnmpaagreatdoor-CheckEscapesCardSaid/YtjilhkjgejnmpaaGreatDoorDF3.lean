import Derived.Test.YtjilhkjgejnmpaaGreatDoorDF2
set_option linter.all false
noncomputable section
namespace Go.Proofs.YtjilhkjgejnmpaaGreatDoor
open Go.RowKit Go.Extern.Stop Go.Stop Go.Extern
set_option maxHeartbeats 4000000
set_option maxRecDepth 100000
theorem as_chain(ta vb:Nat)(p q:Int)(o1 o2:Value)(w:World)(hv:w.cell? ⟨vb,0,none⟩=some (.pointer (some ⟨ta,0,none⟩)))(ht:w.cell? ⟨ta,0,none⟩=some o1)(ht2:w.cell? ⟨ta,1,none⟩=some o2)(hf:w.frozen? ⟨ta,0,none⟩=false)(hf2:w.frozen? ⟨ta,1,none⟩=false) :
 Calls Tryz.prog 224 #[.iface 272 (.agg #[.int .i64 p,.int .i64 q]),.iface 218 (.pointer (some ⟨ta,0,none⟩)),.agg #[.pointer (some ⟨1,218,none⟩),.pointer (some ⟨vb,0,none⟩),.int .u64 150],.iface 318 (.agg #[.pointer (some ⟨1,216,none⟩)])] w
  fun ev w'=>ev=.returned (.bool true)∧w'=((((w.alloc (.cells #[.pointer (some ⟨1,218,none⟩),.pointer (some ⟨vb,0,none⟩),.int .u64 150] 278)).alloc (.cells #[.int .i64 p,.int .i64 q] 272)).alloc (.cells #[.int .i64 p,.int .i64 q] 216)).setCell ⟨ta,0,none⟩ (.int .i64 p)).setCell ⟨ta,1,none⟩ (.int .i64 q):=by
 have lt:∀ {b i:Nat} {v:Value},w.cell? ⟨b,i,none⟩=some v→b<w.heap.size:=by
  intro b i v h
  rcases Nat.lt_or_ge b w.heap.size with h1|h1
  · exact h1
  · simp[World.cell?,Array.getElem?_eq_none h1]at h
 have hvl:=lt hv
 have htl:=lt ht
 have h221:=@run_callFunc_extern Tryz.prog 221 _ (fun args=>ReflectliteValue.unpack (args.getD 0 (.tuple #[]))) Tryz.func221 (by kernel_rfl) (by kernel_rfl) (by kernel_rfl) (by kernel_rfl)
 have h237:=@run_callFunc_extern Tryz.prog 237 _ ReflectliteType.typeOf Tryz.func237 (by kernel_rfl) (by kernel_rfl) (by kernel_rfl) (by kernel_rfl)
 have h303 := @run_callFunc_extern Tryz.prog 303 _ (ReflectliteType.relation "AssignableTo" ReflectliteType.assignableTo) Tryz.func303 (by kernel_rfl) (by kernel_rfl) (by kernel_rfl) (by kernel_rfl)
 have h256 := @run_callFunc_extern Tryz.prog 256 _ (ReflectliteValue.method (ReflectliteValue.valueError "reflectlite.Value.Elem" 0) ReflectliteValue.elem) Tryz.func256 (by kernel_rfl) (by kernel_rfl) (by kernel_rfl) (by kernel_rfl)
 have h257:=@run_callFunc_extern Tryz.prog 257 _ ReflectliteValue.set Tryz.func257 (by kernel_rfl) (by kernel_rfl) (by kernel_rfl) (by kernel_rfl)
 have tO1:=Tryz.typeOf 272 (.inr rfl)
 have tO2:=Tryz.typeOf 216 (.inl rfl)
 have mA:=Tryz.methodAssignableTo
 have mU:=Tryz.methodUnwrap
 have a0:=Tryz.assignable0
 have a1:=Tryz.assignable
 have v216:=Tryz.valueOf216 (.int .i64 p) (.int .i64 q)
 have l1:=Tryz.lacksAs272 (.agg #[.int .i64 p,.int .i64 q])
 have l2:=Tryz.hasUnwrap272 (.agg #[.int .i64 p,.int .i64 q])
 have el:=Tryz.elemV218 ⟨vb,0,none⟩ ⟨ta,0,none⟩ ((w.alloc (.cells #[.pointer (some ⟨1,218,none⟩),.pointer (some ⟨vb,0,none⟩),.int .u64 150] 278)).alloc (.cells #[.int .i64 p,.int .i64 q] 272))
  (by rw[World.cell?_alloc_lt _ _ ⟨vb,0,none⟩ (by simp;omega),World.cell?_alloc_lt _ _ ⟨vb,0,none⟩ hvl];exact hv)
 have st:=Tryz.set216 ta (w.heap.size+1+1) p q o1 o2 (((w.alloc (.cells #[.pointer (some ⟨1,218,none⟩),.pointer (some ⟨vb,0,none⟩),.int .u64 150] 278)).alloc (.cells #[.int .i64 p,.int .i64 q] 272)).alloc (.cells #[.int .i64 p,.int .i64 q] 216))
  (by rw[World.cell?_alloc_at _ _ _ _ (by simp)];rfl) (by rw[World.cell?_alloc_at _ _ _ _ (by simp)];rfl)
  (by rw[World.cell?_alloc_lt _ _ ⟨ta,0,none⟩ (by simp;omega),World.cell?_alloc_lt _ _ ⟨ta,0,none⟩ (by simp;omega),World.cell?_alloc_lt _ _ ⟨ta,0,none⟩ htl];exact ht)
  (by rw[World.cell?_alloc_lt _ _ ⟨ta,1,none⟩ (by simp;omega),World.cell?_alloc_lt _ _ ⟨ta,1,none⟩ (by simp;omega),World.cell?_alloc_lt _ _ ⟨ta,1,none⟩ htl];exact ht2)
  (by rw[World.frozen?_alloc_old _ _ ⟨ta,0,none⟩ (by simp;omega),World.frozen?_alloc_old _ _ ⟨ta,0,none⟩ (by simp;omega),World.frozen?_alloc_old _ _ ⟨ta,0,none⟩ (Nat.ne_of_lt htl)];exact hf)
  (by rw[World.frozen?_alloc_old _ _ ⟨ta,1,none⟩ (by simp;omega),World.frozen?_alloc_old _ _ ⟨ta,1,none⟩ (by simp;omega),World.frozen?_alloc_old _ _ ⟨ta,1,none⟩ (Nat.ne_of_lt htl)];exact hf2)
 go_enter Tryz.func224,Tryz.ntmps224
 go_wp2
 refine wp_loop_rounds 2 ?_
 rw[rounds_succ]
 go_wp2_with (go_at_call 298;refine(Tryz.unwrap p q _).mono ?_;rintro e w' ⟨rfl,rfl⟩)
 rw[rounds_succ]
 go_wp2
 go_ret
 exact⟨rfl,rfl⟩
end Go.Proofs.YtjilhkjgejnmpaaGreatDoor
