import Derived.Test.YtjilhkjgejnmpaaGreatDoorDF6
set_option linter.all false
noncomputable section
namespace Go.Proofs.YtjilhkjgejnmpaaGreatDoor
open Go.RowKit Go.Extern.Stop Go.Stop Go.Extern Go.Extern.Rtype
set_option maxHeartbeats 4000000
set_option maxRecDepth 100000
theorem Tryz.comparable214 (w : World) : (ReflectliteType.method (fun t => do noPackHeld "Comparable" t; (fun a => Value.bool a.comparable) <$> typeInfo t) #[.agg #[.pointer (some ⟨1, 214, none⟩)]]).run Tryz.prog w = .ok (.bool true) w := by kernel_rfl
theorem is_chain(p q c:Int)(w:World) :
 Calls Tryz.prog 238 #[.iface 272 (.agg #[.int .i64 p,.int .i64 q]),.iface 214 (.int .i64 c),.bool true] w
  fun ev w'=>ev=.returned (.bool (q == c))∧w'=(w.alloc (.cells #[.int .i64 p,.int .i64 q] 272)).alloc (.cells #[.int .i64 p,.int .i64 q] 216):=by
 have mU:=Tryz.methodUnwrap
 have mS:=Tryz.methodUnwrapS
 have l1:=Tryz.lacksIs 272 (.inl rfl) (.agg #[.int .i64 p,.int .i64 q])
 have l2:=Tryz.lacksIs 216 (.inr (.inl rfl)) (.agg #[.int .i64 p,.int .i64 q])
 have l3:=Tryz.lacksIs 214 (.inr (.inr rfl)) (.int .i64 q)
 have u1:=Tryz.hasUnwrap272 (.agg #[.int .i64 p,.int .i64 q])
 have u2:=Tryz.hasUnwrap216 (.agg #[.int .i64 p,.int .i64 q])
 have u3:=Tryz.lacksUnwrap214 (.int .i64 q)
 have u4:=Tryz.lacksUnwraps214 (.int .i64 q)
 have q1:∀ (x y:Value) (w:World),(binOp .eql 143 (.iface 272 x) (.iface 214 y)).run Tryz.prog w=.ok (.bool false) w:=fun x y w=>run_eql_iface_types 272 214 x y Tryz.underlying143 (by decide) w
 have q2:∀ (x y:Value) (w:World),(binOp .eql 143 (.iface 216 x) (.iface 214 y)).run Tryz.prog w=.ok (.bool false) w:=fun x y w=>run_eql_iface_types 216 214 x y Tryz.underlying143 (by decide) w
 by_cases hqc:q=c
 · subst hqc
   have q3:∀ w:World,(binOp .eql 143 (.iface 214 (.int .i64 q)) (.iface 214 (.int .i64 q))).run Tryz.prog w=.ok (.bool true) w:=fun w=>by rw[Tryz.eq214,beq_self_eq_true]
   rw[beq_self_eq_true]
   go_enter Tryz.func238,Tryz.ntmps238
   go_wp2
   refine wp_loop_rounds 3 ?_
   rw[rounds_succ]
   go_wp2_with (first|(go_at_call 298;refine(Tryz.unwrap p q _).mono ?_;rintro e w' ⟨rfl,rfl⟩)|(go_at_call 296;refine(Tryz.unwrapS p q _).mono ?_;rintro e w' ⟨rfl,rfl⟩))
   rw[rounds_succ]
   go_wp2_with (first|(go_at_call 298;refine(Tryz.unwrap p q _).mono ?_;rintro e w' ⟨rfl,rfl⟩)|(go_at_call 296;refine(Tryz.unwrapS p q _).mono ?_;rintro e w' ⟨rfl,rfl⟩))
   rw[rounds_succ]
   go_wp2
   go_ret
   exact⟨rfl,rfl⟩
 · have q3:∀ w:World,(binOp .eql 143 (.iface 214 (.int .i64 q)) (.iface 214 (.int .i64 c))).run Tryz.prog w=.ok (.bool false) w:=fun w=>by rw[Tryz.eq214,show (q == c)=false from by simpa using hqc]
   rw[show (q == c)=false from by simpa using hqc]
   go_enter Tryz.func238,Tryz.ntmps238
   go_wp2
   refine wp_loop_rounds 3 ?_
   rw[rounds_succ]
   go_wp2_with (first|(go_at_call 298;refine(Tryz.unwrap p q _).mono ?_;rintro e w' ⟨rfl,rfl⟩)|(go_at_call 296;refine(Tryz.unwrapS p q _).mono ?_;rintro e w' ⟨rfl,rfl⟩))
   rw[rounds_succ]
   go_wp2_with (first|(go_at_call 298;refine(Tryz.unwrap p q _).mono ?_;rintro e w' ⟨rfl,rfl⟩)|(go_at_call 296;refine(Tryz.unwrapS p q _).mono ?_;rintro e w' ⟨rfl,rfl⟩))
   rw[rounds_succ]
   go_wp2
   go_ret
   exact⟨rfl,rfl⟩
theorem is_calls(p q c:Int)(w:World) :
 Calls Tryz.prog 182 #[.iface 272 (.agg #[.int .i64 p,.int .i64 q]),.iface 214 (.int .i64 c)] w
  fun ev w'=>ev=.returned (.bool (q == c))∧w'=(w.alloc (.cells #[.int .i64 p,.int .i64 q] 272)).alloc (.cells #[.int .i64 p,.int .i64 q] 216):=by
 have h237:=@run_callFunc_extern Tryz.prog 237 _ ReflectliteType.typeOf Tryz.func237 (by kernel_rfl) (by kernel_rfl) (by kernel_rfl) (by kernel_rfl)
 have h304 := @run_callFunc_extern Tryz.prog 304 _ (ReflectliteType.method fun t => do noPackHeld "Comparable" t; pure (.bool (← typeInfo t).comparable)) Tryz.func304 (by kernel_rfl) (by kernel_rfl) (by kernel_rfl) (by kernel_rfl)
 have tO:=Tryz.typeOf214 (.int .i64 c)
 have mC:=Tryz.methodComparable
 have cc:=Tryz.comparable214
 go_enter Tryz.func182,Tryz.ntmps182
 go_wp2_with (go_at_call 238;refine(is_chain p q c _).mono ?_;rintro e w' ⟨rfl,rfl⟩)
 go_ret
 exact⟨rfl,rfl⟩
end Go.Proofs.YtjilhkjgejnmpaaGreatDoor
