import Derived.Test.YtjilhkjgejnmpaaGreatDoorDF3
set_option linter.all false
noncomputable section
namespace Go.Proofs.YtjilhkjgejnmpaaGreatDoor
open Go.RowKit Go.Extern.Stop Go.Stop Go.Extern
set_option maxHeartbeats 4000000
set_option maxRecDepth 100000
theorem as_fault(ta:Nat)(p q:Int)(o1 o2:Value)(w:World)(hg:w.cell? ⟨0,0,none⟩=some (.iface 318 (.agg #[.pointer (some ⟨1,143,none⟩)])))(ht:w.cell? ⟨ta,0,none⟩=some o1)(ht2:w.cell? ⟨ta,1,none⟩=some o2)(hf:w.frozen? ⟨ta,0,none⟩=false)(hf2:w.frozen? ⟨ta,1,none⟩=false) :
 Calls Tryz.prog 148 #[.iface 272 (.agg #[.int .i64 p,.int .i64 q]),.iface 218 (.pointer (some ⟨ta,0,none⟩))] w
  fun ev w'=>ev=.returned (.bool true)∧w'=((((((w.alloc (.cells #[.pointer (some ⟨ta,0,none⟩)] 218)).alloc (.cells #[.pointer (some ⟨1,218,none⟩),.pointer (some ⟨w.heap.size,0,none⟩),.int .u64 150] 278)).alloc (.cells #[.pointer (some ⟨1,218,none⟩),.pointer (some ⟨w.heap.size,0,none⟩),.int .u64 150] 278)).alloc (.cells #[.int .i64 p,.int .i64 q] 272)).alloc (.cells #[.int .i64 p,.int .i64 q] 216)).setCell ⟨ta,0,none⟩ (.int .i64 p)).setCell ⟨ta,1,none⟩ (.int .i64 q):=by
 have lt:∀ {b i:Nat} {v:Value},w.cell? ⟨b,i,none⟩=some v→b<w.heap.size:=by
  intro b i v h
  rcases Nat.lt_or_ge b w.heap.size with h1|h1
  · exact h1
  · simp[World.cell?,Array.getElem?_eq_none h1]at h
 have hgl:=lt hg
 have htl:=lt ht
 have h221:=@run_callFunc_extern Tryz.prog 221 _ (fun args=>ReflectliteValue.unpack (args.getD 0 (.tuple #[]))) Tryz.func221 (by kernel_rfl) (by kernel_rfl) (by kernel_rfl) (by kernel_rfl)
 have h222 := @run_callFunc_extern Tryz.prog 222 _ (ReflectliteValue.methodAny (ReflectliteValue.valueError "reflectlite.Value.Type" 0) (fun t _ _ _ => ReflectliteType.toType t)) Tryz.func222 (by kernel_rfl) (by kernel_rfl) (by kernel_rfl) (by kernel_rfl)
 have h223 := @run_callFunc_extern Tryz.prog 223 _ (ReflectliteValue.method (ReflectliteValue.valueError "reflectlite.Value.IsNil" 0) ReflectliteValue.isNil) Tryz.func223 (by kernel_rfl) (by kernel_rfl) (by kernel_rfl) (by kernel_rfl)
 have h291:=@run_callFunc_extern Tryz.prog 291 _ (ReflectliteType.abiMethod fun t=>do pure (.int .u8 (← Rtype.kind t))) Tryz.func291 (by kernel_rfl) (by kernel_rfl) (by kernel_rfl) (by kernel_rfl)
 have h305:=@run_callFunc_extern Tryz.prog 305 _ (ReflectliteType.method ReflectliteType.elem) Tryz.func305 (by kernel_rfl) (by kernel_rfl) (by kernel_rfl) (by kernel_rfl)
 have h306 := @run_callFunc_extern Tryz.prog 306 _ (ReflectliteType.relation "Implements" ReflectliteType.implements_) Tryz.func306 (by kernel_rfl) (by kernel_rfl) (by kernel_rfl) (by kernel_rfl)
 have f6:=Tryz.valueOf218
 have f7:=Tryz.type218
 have mK:=Tryz.methodKind
 have mE:=Tryz.methodElem
 have mI:=Tryz.methodImplements
 have k1:=Tryz.kind218
 have k2:=Tryz.kind216
 have e1:=Tryz.elem218
 have i1:=Tryz.implements216
 have n8:=Tryz.isNil218 ⟨w.heap.size,0,none⟩ ⟨ta,0,none⟩ ((w.alloc (.cells #[.pointer (some ⟨ta,0,none⟩)] 218)).alloc (.cells #[.pointer (some ⟨1,218,none⟩),.pointer (some ⟨w.heap.size,0,none⟩),.int .u64 150] 278)) (by rw[World.cell?_alloc_lt _ _ ⟨w.heap.size,0,none⟩ (by simp)];simp)
 have hg2:((w.alloc (.cells #[.pointer (some ⟨ta,0,none⟩)] 218)).alloc (.cells #[.pointer (some ⟨1,218,none⟩),.pointer (some ⟨w.heap.size,0,none⟩),.int .u64 150] 278)).cell? ⟨0,0,none⟩=some (.iface 318 (.agg #[.pointer (some ⟨1,143,none⟩)])):=by
  rw[World.cell?_alloc_lt _ _ ⟨0,0,none⟩ (by simp),World.cell?_alloc_lt _ _ ⟨0,0,none⟩ hgl];exact hg
 have ac:=as_chain ta w.heap.size p q o1 o2 ((w.alloc (.cells #[.pointer (some ⟨ta,0,none⟩)] 218)).alloc (.cells #[.pointer (some ⟨1,218,none⟩),.pointer (some ⟨w.heap.size,0,none⟩),.int .u64 150] 278))
  (by rw[World.cell?_alloc_lt _ _ ⟨w.heap.size,0,none⟩ (by simp)];simp)
  (by rw[World.cell?_alloc_lt _ _ ⟨ta,0,none⟩ (by simp;omega),World.cell?_alloc_lt _ _ ⟨ta,0,none⟩ htl];exact ht)
  (by rw[World.cell?_alloc_lt _ _ ⟨ta,1,none⟩ (by simp;omega),World.cell?_alloc_lt _ _ ⟨ta,1,none⟩ htl];exact ht2)
  (by rw[World.frozen?_alloc_old _ _ ⟨ta,0,none⟩ (by simp;omega),World.frozen?_alloc_old _ _ ⟨ta,0,none⟩ (Nat.ne_of_lt htl)];exact hf)
  (by rw[World.frozen?_alloc_old _ _ ⟨ta,1,none⟩ (by simp;omega),World.frozen?_alloc_old _ _ ⟨ta,1,none⟩ (Nat.ne_of_lt htl)];exact hf2)
 go_enter Tryz.func148,Tryz.ntmps148
 go_wp2_with (go_at_call 224;refine ac.mono ?_;rintro e w' ⟨rfl,rfl⟩)
 go_ret
 exact⟨rfl,rfl⟩
end Go.Proofs.YtjilhkjgejnmpaaGreatDoor
