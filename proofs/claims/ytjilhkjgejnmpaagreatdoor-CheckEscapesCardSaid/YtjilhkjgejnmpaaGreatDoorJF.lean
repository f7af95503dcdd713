import Derived.Test.YtjilhkjgejnmpaaGreatDoorJE
set_option linter.all false
noncomputable section
/- More depth changes no result. -/
namespace Go.J
structure EvLe(a b:Ev):Prop where
 code:∀ {rd sz c T hs r},a.code rd sz c T hs=some r→b.code rd sz c T hs=some r
 call:∀ {f vs hs r},a.call f vs hs=some r→b.call f vs hs=some r
section
variable {E:Env}{a b:Ev}{T:PT V}{hs:HS}
end
end Go.J
/- Symbolic runs of the evaluator: a small calculus. -/
namespace Go.J
def ok{α:Type}(x:Option α)(K:α→Prop):Prop:=∃ a,x=some a∧K a
theorem ok_some{α:Type}(a:α)(K:α→Prop):ok (some a) K=K a:=propext ⟨fun ⟨b,h,k⟩=>by cases h;exact k,fun k=>⟨a,rfl,k⟩⟩
theorem ok_ob{α β:Type}(x:Option α)(f:α→Option β)(K:β→Prop):ok (ob x f) K=ok x fun a=>ok (f a) K:=by
 cases x with
 |none=>exact propext ⟨fun ⟨b,h,_⟩=>(by cases h),fun ⟨b,h,_⟩=>(by cases h)⟩
 |some a=>rw[ob_some,ok_some]
theorem ok_gd{α:Type}(c:Bool)(x:Option α)(K:α→Prop):ok (gd c x) K=(c=true∧ok x K):=by
 cases c with
 |true=>rw[gd_true];simp
 |false=>rw[gd_false];exact propext ⟨fun ⟨b,h,_⟩=>(by cases h),fun ⟨h,_⟩=>(by cases h)⟩
def br(c A B:Prop):Prop:=(c→A)∧(¬ c→B)
theorem br_eq(c:Prop) [Decidable c](A B:Prop):br c A B=if c then A else B:=by
 grind [br]
theorem br_true(A B:Prop):br True A B=A:=by simp[br]
theorem br_false(A B:Prop):br False A B=B:=by simp[br]
section
variable {E:Env}{rd:Bool}{sz:Nat}{T:PT V}{hs:HS}{Q:Ex→PT V→HS→Prop}
def Jc(E:Env)(rd:Bool)(sz:Nat)(c:Code)(T:PT V)(hs:HS)(Q:Ex→PT V→HS→Prop):Prop :=
 ∃ n ex T' hs',(evJ E n).code rd sz c T hs=some (ex,T',hs')∧Q ex T' hs'
def Ex.then(K:PT V→HS→Prop)(Q:Ex→PT V→HS→Prop):Ex→PT V→HS→Prop
 |.normal,T,hs=>K T hs
 |.ret,T,hs=>Q .ret T hs
 |.exit i,T,hs=>Q (.exit i) T hs
def Ex.inBlock(id:Nat)(Q:Ex→PT V→HS→Prop):Ex→PT V→HS→Prop
 |.normal,T,hs=>Q .normal T hs
 |.ret,T,hs=>Q .ret T hs
 |.exit i,T,hs=>if i=id then Q .normal T hs else Q (.exit i) T hs
variable {ops l:List Oper}{id:Nat}{R:PT V→HS→Prop}
def put(sz:Nat)(T:PT V)(d:Option Tmp)(v:V)(K:PT V→Prop):Prop :=
 match d with
 |none=>K T
 |some d=>d<sz∧K (T.set d v)
end
end Go.J
/- Code without what the evaluator does not look at;symbolic runs of it. -/
namespace Go.J
structure SOp where
 d:Option Tmp
 op:Op
 g:Option (Tmp×Bool)
structure SD where
 d:Option Tmp
 op:Op
 g:Option (Tmp×Bool)
 lk:List Nat
inductive SC where
 |draw (l:List SD) (bs:List Nat)
 |skip|ret
 |exit (id:Nat)
 |reg (l:List SOp)
 |seq (a b:SC)
 |cond (q:Operand) (a b:SC)
 |block (id:Nat) (a:SC)
 |loop (a:SC)
 |range (g:Operand) (ps:Array Tmp) (a b:SC)
def stripG (ops:List Oper):Option (Nat×Bool)→Option (Option (Tmp×Bool))
 |none=>some none
 | some (j,w)=>match ops[j]? with
   | some p=>match p.dst with
     |some d=>some (some (d,w))
     |none=>none
   |none=>none
def stripL (ops:List Oper):List Oper→Option (List SOp)
 | []=>some []
 | o::l=>match stripG ops o.guard,stripL ops l with
   |some g,some r=>some (⟨o.dst,o.op,g⟩::r)
   |_,_=>none
def stripD (ops:List Oper):List Oper→Option (List SD)
 | []=>some []
 | o::l=>match stripG ops o.guard,stripD ops l with
   |some g,some r=>some (⟨o.dst,o.op,g,looks ops o⟩::r)
   |_,_=>none
def stripC:Code→Option SC
 | .region _ ops true=>match stripD ops.toList ops.toList,drawOk ops.toList with
   |some l,some bs=>some (.draw l bs)
   |_,_=>none
 |.skip=>some .skip
 |.ret=>some .ret
 |.exit i=>some (.exit i)
 | .region _ ops false=>match stripL ops.toList ops.toList with
   |some l=>some (.reg l)
   |none=>none
 | .seq a b=>match stripC a,stripC b with
   |some a,some b=>some (.seq a b)
   |_,_=>none
 | .cond q a b=>match stripC a,stripC b with
   |some a,some b=>some (.cond q a b)
   |_,_=>none
 | .block i a=>match stripC a with
   |some a=>some (.block i a)
   |none=>none
 | .loop a=>match stripC a with
   |some a=>some (.loop a)
   |none=>none
 | .rangeFunc g ps a b=>match stripC a,stripC b with
   |some a,some b=>some (.range g ps a b)
   |_,_=>none
 |_=>none
section
variable {E:Env}{rd:Bool}{sz:Nat}{T:PT V}{hs:HS}{Q:Ex→PT V→HS→Prop}
def V.guard? (v:V)(w:Bool):Option Bool:=match v with
 |.bool b=>some b
 |.tuple []=>some (!w)
 |_=>none
def wpO (E:Env) (id:Nat) (T:PT V) (hs:HS) (op:Op) (K:V→HS→Prop):Prop :=
 match op with
 | .call c=>match c.callee with
   |.builtin b=>(opClass op≠0→hs.H.get id=none)∧ok (evalL T c.args.toList) fun vs=>ok (builtinJ E.P hs id b c.argTypes.toList vs) fun r=>K r.1 r.2
   |.value x=>hs.H.get id=none∧ok (evalO T x) fun v=>ok (funcOf v) fun p=>ok (evalL T c.args.toList) fun vs=>ok (E.con p.1 (appL vs p.2) hs) fun r=>K r.1 r.2
   |.invoke _ _=>False
 |op=>(opClass op≠0→hs.H.get id=none)∧ok (opJ E.P false T hs id (opR op)) fun r=>K r.1 r.2
def wpS(E:Env)(id:Nat)(T:PT V)(hs:HS)(s:SOp)(K:V→HS→Prop):Prop :=
 match s.g with
 |none=>wpO E id T hs s.op K
 |some (t,w)=>ok (T.get t) fun v=>ok (v.guard? w) fun q=>if q=w then wpO E id T hs s.op K else K undefV hs
def Rs(E:Env)(sz:Nat):List SOp→Nat→PT V→HS→(PT V→HS→Prop)→Prop
 | [],_,T,hs,R=>R T hs
 |s::l,id,T,hs,R=>wpS E id T hs s fun v hs'=>put sz T s.d v fun T1=>Rs E sz l (id+1) T1 hs' R
def Js(E:Env)(rd:Bool)(sz:Nat)(s:SC)(T:PT V)(hs:HS)(Q:Ex→PT V→HS→Prop):Prop:=∀ c,stripC c=some s→Jc E rd sz c T hs Q
end
section
variable {E:Env}{rd:Bool}{sz:Nat}{T:PT V}{hs:HS}{Q:Ex→PT V→HS→Prop}
end
def Leaves(P:Program)(fn:Func)(K:V→HS→Prop)(ex:Ex)(T:PT V)(hs:HS):Prop:=(∀ i,ex≠.exit i)∧ok (resJ P T hs fn.results.toList) fun l=>K (tupleJ l) hs
def Gives(r:V)(v:V)(hs:HS):Prop:=still hs v=some r
theorem Leaves_ret{P:Program}{fn:Func}{K:V→HS→Prop}{T:PT V}{hs:HS}:Leaves P fn K .ret T hs=ok (resJ P T hs fn.results.toList) fun l=>K (tupleJ l) hs :=
 propext ⟨fun h=>h.2,fun h=>⟨fun i h=>(by cases h),h⟩⟩
theorem Leaves_normal{P:Program}{fn:Func}{K:V→HS→Prop}{T:PT V}{hs:HS}:Leaves P fn K .normal T hs=ok (resJ P T hs fn.results.toList) fun l=>K (tupleJ l) hs :=
 propext ⟨fun h=>h.2,fun h=>⟨fun i h=>(by cases h),h⟩⟩
end Go.J
