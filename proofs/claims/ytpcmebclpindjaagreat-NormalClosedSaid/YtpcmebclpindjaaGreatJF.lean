import Derived.Test.YtpcmebclpindjaaGreatJE
set_option linter.all false
noncomputable section
/- More depth changes no result. -/
namespace Go.J
structure EvLe(a b:Ev):Prop where
 code:∀ {rd sz c T hs r},a.code rd sz c T hs=some r->b.code rd sz c T hs=some r
 call:∀ {f vs hs r},a.call f vs hs=some r->b.call f vs hs=some r
section
variable {E:Env}{a b:Ev}{T:PT V}{hs:HS}
theorem zvn (h:EvLe a b) {f:FuncId} {vs:List V} {r:V×HS} (hr:zeD E a f vs hs=some r):zeD E b f vs hs=some r:=by
 unfold zeD at hr ⊢
 cases hp:E.pol f with
 | zero =>
   rw[hp]at hr;replace hr:bi (zu vs) (zbw a f vs hs) (a.call f vs hs)=some r:=hr;show bi (zu vs) (zbw b f vs hs) (b.call f vs hs)=some r;rw[zal]at hr ⊢;split at hr
   . rename_i hb;rw[if_pos hb];simp only[zbw,zb]at hr ⊢;obtain⟨q,h1,h2⟩:=hr;exact⟨q,h.call h1,h2⟩
   . rename_i hb;rw[if_neg hb];exact h.call hr
 | succ m =>
   rw[hp]at hr
   cases m with
   |zero=>exact h.call hr
   | succ m =>
    cases m with
    |succ m =>
     replace hr:zcT a f vs hs=some r:=hr;show zcT b f vs hs=some r;simp only[zcT,zb]at hr ⊢;obtain⟨q,h1,h2⟩:=hr;exact⟨q,h.call h1,h2⟩
    |zero =>
     replace hr:orc (a.call f vs hs) (fun args'=>zaC a f args' hs) (za1 hs vs)=some r:=hr;show orc (b.call f vs hs) (fun args'=>zaC b f args' hs) (za1 hs vs)=some r
     cases hs1:za1 hs vs with
     |none=>rw[hs1]at hr;exact h.call hr
     | some args' =>
       rw[hs1]at hr;replace hr:zaC a f args' hs=some r:=hr;show zaC b f args' hs=some r;simp only[zaC,zb,zl]at hr ⊢;obtain⟨q,h1,h2⟩:=hr;exact⟨q,h.call h1,h2⟩
theorem zxK(h:EvLe a b){f:FuncId}{vs:List V}{r:V×HS}(hr:zfU E a f vs hs=some r):zfU E b f vs hs=some r:=by
 unfold zfU at hr ⊢
 cases hq:E.con f vs hs with
 |none=>rw[hq]at hr;exact zvn h hr
 |some q=>rw[hq]at hr;exact hr
theorem zqs(h:EvLe a b){id:Nat}{vs:List V}{r:V×HS}(hr:zfX a id vs hs=some r):zfX b id vs hs=some r:=by
 simp only[zfX,zb,zl]at hr ⊢;obtain⟨o,h1,l,h2,h3,T,h4,q,h5,h6,o1,h7,l1,h8,h9,p,h10,h11⟩:=hr;exact⟨o,h1,l,h2,h3,T,h4,q,h.code h5,h6,o1,h7,l1,h8,h9,p,h.code h10,h11⟩
theorem zfc(h:EvLe a b){dr:Bool}{id:Nat}{o:Oper}{r:V×HS}(hr:stepJ E a dr T hs id o=some r):stepJ E b dr T hs id o=some r:=by
 unfold stepJ at hr ⊢
 cases hc:zb4 o.op with
 |none=>rw[hc]at hr;exact hr
 | some c =>
   rw[hc]at hr;replace hr:zbV E a T hs id c=some r:=hr;show zbV E b T hs id c=some r;simp only[zbV,zb]at hr ⊢;obtain⟨vs,h1,h2⟩:=hr;refine⟨vs,h1,?_⟩
   cases hcal:c.callee with
   |builtin bb=>rw[hcal]at h2;exact h2
   | value x =>
     rw[hcal]at h2;simp only[zb]at h2 ⊢;obtain⟨v,h3,h4⟩:=h2;refine⟨v,h3,?_⟩;unfold zi1 at h4 ⊢
     grind [zxK,id,zqs]
   |invoke x n=>rw[hcal]at h2;cases h2
theorem zkP(h:EvLe a b){sz id:Nat}{ops:List Oper}{o:Oper}{r:PT V×HS}(hr:zcA E a sz ops o id T hs=some r):zcA E b sz ops o id T hs=some r:=by
 simp only[zcA,zb]at hr ⊢;obtain⟨w,h1,h2⟩:=hr;refine⟨w,h1,?_⟩
 grind [zal,zl,zb,zfc]
theorem zi9(h:EvLe a b){sz:Nat}{ops:List Oper}:∀ {l:List Oper} {id:Nat} {T:PT V} {hs:HS} {r:PT V×HS},zbK E a sz ops l id T hs=some r->zbK E b sz ops l id T hs=some r:=by
 intro l
 induction l with
 |nil=>intro id T hs r hr;exact hr
 | cons o l ih =>
   intro id T hs r hr;replace hr:(ob (zcA E a sz ops o id T hs) fun r=>zbK E a sz ops l (id+1) r.1 r.2)=some r:=hr;show (ob (zcA E b sz ops o id T hs) fun r=>zbK E b sz ops l (id+1) r.1 r.2)=some r
   grind [zb,zkP]
theorem zuX(h:EvLe a b){o:Oper}{id:Nat}{r:V×HS×List Nat×List Nat}(hr:zdk E a o id T hs=some r):zdk E b o id T hs=some r:=by
 unfold zdk at hr ⊢
 cases hc:zt o.op with
 | zero =>
   rw[hc]at hr;replace hr:(ob (stepJ E a true T { H:=zW hs.H (readsOf T o.op),n:=0,log:=[] } id o) fun r=>some (r.1,hs,readsOf T o.op,[]))=some r:=hr;show (ob (stepJ E b true T { H:=zW hs.H (readsOf T o.op),n:=0,log:=[] } id o) fun r=>some (r.1,hs,readsOf T o.op,[]))=some r
   grind [zb,zfc]
 | succ m =>
   rw[hc]at hr
   cases m with
   | zero =>
     replace hr:(gd (zaz hs id) (ob (stepJ E a true T { H:=.leaf,n:=0,log:=[] } id o) fun r=>ob (r.2.H.get id) fun o'=>gd (nt o'.fz) (some (r.1,hs.put id o',[id],[]))))=some r:=hr;show (gd (zaz hs id) (ob (stepJ E b true T { H:=.leaf,n:=0,log:=[] } id o) fun r=>ob (r.2.H.get id) fun o'=>gd (nt o'.fz) (some (r.1,hs.put id o',[id],[]))))=some r
     grind [zb,zl,zfc]
   | succ m =>
     replace hr:(gd (zaz hs id) (ob (stepJ E a true T { H:=hs.H,n:=hs.n,log:=[] } id o) fun r=>some (r.1,{ H:=r.2.H,n:=r.2.n,log:=zbt r.2.log hs.log },[],r.2.log)))=some r:=hr;show (gd (zaz hs id) (ob (stepJ E b true T { H:=hs.H,n:=hs.n,log:=[] } id o) fun r=>some (r.1,{ H:=r.2.H,n:=r.2.n,log:=zbt r.2.log hs.log },[],r.2.log)))=some r
     grind [zb,zl,zfc]
theorem zpp(h:EvLe a b){o:Oper}{id:Nat}{r:V×HS×List Nat×List Nat}(hr:zcS E a o id T hs=some r):zcS E b o id T hs=some r:=by
 grind [zcS,zal,ziU,zb,zl,zfc,zuX]
theorem zoJ(h:EvLe a b){sz:Nat}{ops:List Oper}:∀ {l:List Oper} {id:Nat} {T:PT V} {hs:HS} {acc:List (List Nat×List Nat)} {r:(PT V×HS)×List (List Nat×List Nat)},
 zcj E a sz ops l id T hs acc=some r->zcj E b sz ops l id T hs acc=some r:=by
 intro l
 induction l with
 |nil=>intro id T hs acc r hr;exact hr
 | cons o l ih =>
   intro id T hs acc r hr;replace hr:(ob (zan E a ops o id (zW T (looks ops o)) hs) fun r=>ob (zlH sz T o.dst r.1) fun T'=>zcj E a sz ops l (id+1) T' r.2.1 (zbt acc [r.2.2]))=some r:=hr;show (ob (zan E b ops o id (zW T (looks ops o)) hs) fun r=>ob (zlH sz T o.dst r.1) fun T'=>zcj E b sz ops l (id+1) T' r.2.1 (zbt acc [r.2.2]))=some r;simp only[zb]at hr ⊢;obtain⟨q,h1,T',h2,h3⟩:=hr;refine⟨q,?_,T',h2,ih h3⟩;simp only[zan,zb]at h1 ⊢;obtain⟨w,h4,h5⟩:=h1;refine⟨w,h4,?_⟩
   grind [zal,zpp]
theorem z4s(h:EvLe a b){sz:Nat}{l:List Oper}{draw:Bool}{r:Ex×PT V×HS}(hr:z4t E a sz l draw T hs=some r):z4t E b sz l draw T hs=some r:=by
 grind [z4t,zb,zal,zlp,zl,zoJ,zi9]
theorem zqq(h:EvLe a b){rd:Bool}{sz:Nat}{c:Code}{q r:Ex×PT V×HS}(hr:zv9 a rd sz c q=some r):zv9 b rd sz c q=some r:=by
 unfold zv9 at hr ⊢
 cases hq:q.1 with
 |normal=>rw[hq]at hr;exact h.code hr
 |ret=>rw[hq]at hr;exact hr
 |exit i=>rw[hq]at hr;exact hr
theorem zxA(h:EvLe a b){rd:Bool}{sz:Nat}{c:Code}{r:Ex×PT V×HS}(hr:zl2 E a rd sz c T hs=some r):zl2 E b rd sz c T hs=some r:=by
 cases c<;>simp only[zl2]at hr ⊢<;>first|exact hr|exact z4s h hr|skip
 case seq x y =>
  simp only[zb]at hr ⊢;obtain⟨q,h1,h2⟩:=hr;exact⟨q,h.code h1,zqq h h2⟩
 case cond q x y =>
  simp only[zb]at hr ⊢;obtain⟨v,h1,t,h2,h3⟩:=hr;refine⟨v,h1,t,h2,?_⟩;rw[zal]at h3 ⊢;split at h3
  . rename_i hw;rw[if_pos hw];exact h.code h3
  . rename_i hw;rw[if_neg hw];exact h.code h3
 case block id body =>
  simp only[zb]at hr ⊢;obtain⟨q,h1,h2⟩:=hr;exact⟨q,h.code h1,h2⟩
 case loop body =>
  simp only[zb]at hr ⊢;obtain⟨q,h1,h2⟩:=hr;exact⟨q,h.code h1,zqq h h2⟩
 case rangeFunc g ps assign body =>
  simp only[zl,zb,zkz]at hr ⊢;obtain⟨h1,v,h2,p,h3,h4,q,h5,h6⟩:=hr;exact⟨h1,v,h2,p,h3,h4,q,h.call h5,h6⟩
theorem zxT(h:EvLe a b){f:FuncId}{vs:List V}{r:V×HS}(hr:ziz E a f vs hs=some r):ziz E b f vs hs=some r:=by
 simp only[ziz,zb]at hr ⊢;obtain⟨fn,h1,c,h2,T,h3,q,h4,h5⟩:=hr;exact⟨fn,h1,c,h2,T,h3,q,h.code h4,h5⟩
theorem zol(E:Env):∀ n,EvLe (evJ E n) (evJ E (n+1)):=by
 intro n
 induction n with
 |zero=>exact⟨fun h=>(by cases h),fun h=>(by cases h)⟩
 |succ n ih=>exact⟨fun h=>zxA ih h,fun h=>zxT ih h⟩
theorem z3f(E:Env){m n:Nat}(h:m<=n):EvLe (evJ E m) (evJ E n):=by
 induction h with
 |refl=>exact⟨fun h=>h,fun h=>h⟩
 |step _ ih=>exact⟨fun h=>(zol E _).code (ih.code h),fun h=>(zol E _).call (ih.call h)⟩
end
end Go.J
/- Symbolic runs of the evaluator: a small calculus. -/
namespace Go.J
def ok{α:Type}(x:Option α)(K:α->Prop):Prop:=∃ a,x=some a/\K a
theorem zm{α:Type}(a:α)(K:α->Prop):ok (some a) K=K a:=propext ⟨fun ⟨b,h,k⟩=>by cases h;exact k,fun k=>⟨a,rfl,k⟩⟩
theorem zab{α β:Type}(x:Option α)(f:α->Option β)(K:β->Prop):ok (ob x f) K=ok x fun a=>ok (f a) K:=by
 cases x with
 |none=>exact propext ⟨fun ⟨b,h,_⟩=>(by cases h),fun ⟨b,h,_⟩=>(by cases h)⟩
 |some a=>rw[zB,zm]
theorem zct{α:Type}(c:Bool)(x:Option α)(K:α->Prop):ok (gd c x) K=(c=true/\ok x K):=by
 cases c with
 |true=>rw[zbR];simp
 |false=>rw[zn2];exact propext ⟨fun ⟨b,h,_⟩=>(by cases h),fun ⟨h,_⟩=>(by cases h)⟩
theorem z4B{α:Type}{x:Option α}{K K':α->Prop}(h:ok x K)(hk:∀ a,K a->K' a):ok x K':=let ⟨a,h1,h2⟩:=h;⟨a,h1,hk a h2⟩
def br(c A B:Prop):Prop:=(c->A)/\(¬ c->B)
theorem z6C(c:Prop) [Decidable c](A B:Prop):br c A B=if c then A else B:=by
 grind [br]
theorem zvp(A B:Prop):br True A B=A:=by simp[br]
theorem zou(A B:Prop):br False A B=B:=by simp[br]
section
variable {E:Env}{rd:Bool}{sz:Nat}{T:PT V}{hs:HS}{Q:Ex->PT V->HS->Prop}
def Jc(E:Env)(rd:Bool)(sz:Nat)(c:Code)(T:PT V)(hs:HS)(Q:Ex->PT V->HS->Prop):Prop :=
 ∃ n ex T' hs',(evJ E n).code rd sz c T hs=some (ex,T',hs')/\Q ex T' hs'
def Ex.then(K:PT V->HS->Prop)(Q:Ex->PT V->HS->Prop):Ex->PT V->HS->Prop
 |.normal,T,hs=>K T hs
 |.ret,T,hs=>Q .ret T hs
 |.exit i,T,hs=>Q (.exit i) T hs
def Ex.inBlock(id:Nat)(Q:Ex->PT V->HS->Prop):Ex->PT V->HS->Prop
 |.normal,T,hs=>Q .normal T hs
 |.ret,T,hs=>Q .ret T hs
 |.exit i,T,hs=>if i=id then Q .normal T hs else Q (.exit i) T hs
def Ro(E:Env)(sz:Nat)(ops l:List Oper)(id:Nat)(T:PT V)(hs:HS)(Q:PT V->HS->Prop):Prop:=∃ n T' hs',zbK E (evJ E n) sz ops l id T hs=some (T',hs')/\Q T' hs'
theorem zv2{id:Nat}{ops:List Oper}(h:Ro E sz ops ops hs.n T { H:=hs.H,n:=hs.n+ops.length,log:=hs.log } fun T hs=>Q .normal T hs):Jc E rd sz (.region id ops.toArray false) T hs Q:=by
 obtain⟨n,T1,hs1,h1,h2⟩:=h;refine⟨n+1,.normal,T1,hs1,?_,h2⟩;show (ob (bi false _ (zbK E (evJ E n) sz ops ops hs.n T { H:=hs.H,n:=hs.n+zC ops,log:=hs.log })) fun r=>some (Ex.normal,r.1,r.2))=_;rw[zF,zz,h1];rfl
variable {ops l:List Oper}{id:Nat}{R:PT V->HS->Prop}
theorem zD6:Ro E sz ops [] id T hs R=R T hs:=propext ⟨fun ⟨_,_,_,h1,h2⟩=>by cases h1;exact h2,fun h=>⟨0,T,hs,rfl,h⟩⟩
theorem z6T{o:Oper}(h:∃ n r,zcA E (evJ E n) sz ops o id T hs=some r/\Ro E sz ops l (id+1) r.1 r.2 R):Ro E sz ops (o::l) id T hs R:=by
 obtain⟨n,⟨T1,hs1⟩,h1,m,T2,hs2,h2,h3⟩:=h;refine⟨max n m,T2,hs2,?_,h3⟩;show (ob (zcA E (evJ E (max n m)) sz ops o id T hs) fun r=>zbK E (evJ E (max n m)) sz ops l (id+1) r.1 r.2)=_;rw[zkP (z3f E (Nat.le_max_left n m)) h1,zB];exact zi9 (z3f E (Nat.le_max_right n m)) h2
def put(sz:Nat)(T:PT V)(d:Option Tmp)(v:V)(K:PT V->Prop):Prop :=
 match d with
 |none=>K T
 |some d=>d<sz/\K (T.set d v)
theorem zmc{d:Option Tmp}{v:V}{K:PT V->Prop}(h:put sz T d v K):∃ T',zlH sz T d v=some T'/\K T':=by
 cases d with
 |none=>exact⟨T,rfl,h⟩
 |some d=>exact⟨T.set d v,by show gd (Nat.blt d sz) _=_;rw[blt_true.2 h.1];rfl,h.2⟩
end
end Go.J
/- Code without what the evaluator does not look at;symbolic runs of it. -/
namespace Go.J
structure SOp where
 d:Option Tmp
 op:Op
 g:Option (Tmp×Bool)
structure SD where
 d:Option Tmp
 op:Op
 g:Option (Tmp×Bool)
 lk:List Nat
inductive SC where
 |draw (l:List SD) (bs:List Nat)
 |skip|ret
 |exit (id:Nat)
 |reg (l:List SOp)
 |seq (a b:SC)
 |cond (q:Operand) (a b:SC)
 |block (id:Nat) (a:SC)
 |loop (a:SC)
 |range (g:Operand) (ps:Array Tmp) (a b:SC)
def znc (ops:List Oper):Option (Nat×Bool)->Option (Option (Tmp×Bool))
 |none=>some none
 | some (j,w)=>match ops[j]? with
   | some p=>match p.dst with
     |some d=>some (some (d,w))
     |none=>none
   |none=>none
def stripL (ops:List Oper):List Oper->Option (List SOp)
 | []=>some []
 | o::l=>match znc ops o.guard,stripL ops l with
   |some g,some r=>some (⟨o.dst,o.op,g⟩::r)
   |_,_=>none
def zgA (ops:List Oper):List Oper->Option (List SD)
 | []=>some []
 | o::l=>match znc ops o.guard,zgA ops l with
   |some g,some r=>some (⟨o.dst,o.op,g,looks ops o⟩::r)
   |_,_=>none
def zh:Code->Option SC
 | .region _ ops true=>match zgA ops.toList ops.toList,zlo ops.toList with
   |some l,some bs=>some (.draw l bs)
   |_,_=>none
 |.skip=>some .skip
 |.ret=>some .ret
 |.exit i=>some (.exit i)
 | .region _ ops false=>match stripL ops.toList ops.toList with
   |some l=>some (.reg l)
   |none=>none
 | .seq a b=>match zh a,zh b with
   |some a,some b=>some (.seq a b)
   |_,_=>none
 | .cond q a b=>match zh a,zh b with
   |some a,some b=>some (.cond q a b)
   |_,_=>none
 | .block i a=>match zh a with
   |some a=>some (.block i a)
   |none=>none
 | .loop a=>match zh a with
   |some a=>some (.loop a)
   |none=>none
 | .rangeFunc g ps a b=>match zh a,zh b with
   |some a,some b=>some (.range g ps a b)
   |_,_=>none
 |_=>none
section
variable {E:Env}{rd:Bool}{sz:Nat}{T:PT V}{hs:HS}{Q:Ex->PT V->HS->Prop}
def V.guard? (v:V)(w:Bool):Option Bool:=match v with
 |.bool b=>some b
 |.tuple []=>some (!w)
 |_=>none
def V.wantB(v:V)(w:Bool):Option Bool:=match v with
 |.bool b=>some (zdm b w)
 |.tuple []=>some false
 |_=>none
theorem V.guard?_want {v:V}{w q:Bool}(h:v.guard? w=some q):v.wantB w=some (zdm q w):=by
 unfold V.guard? at h;split at h
 . cases h;rfl
 . cases h;cases w<;>rfl
 . cases h
def wpO (E:Env) (id:Nat) (T:PT V) (hs:HS) (op:Op) (K:V->HS->Prop):Prop :=
 match op with
 | .call c=>match c.callee with
   |.builtin b=>(zt op≠0->hs.H.get id=none)/\ok (za6 T c.args.toList) fun vs=>ok (zbl E.P hs id b c.argTypes.toList vs) fun r=>K r.1 r.2
   |.value x=>hs.H.get id=none/\ok (zk T x) fun v=>ok (funcOf v) fun p=>ok (za6 T c.args.toList) fun vs=>ok (E.con p.1 (zbt vs p.2) hs) fun r=>K r.1 r.2
   |.invoke _ _=>False
 |op=>(zt op≠0->hs.H.get id=none)/\ok (opJ E.P false T hs id (opR op)) fun r=>K r.1 r.2
def wpS(E:Env)(id:Nat)(T:PT V)(hs:HS)(s:SOp)(K:V->HS->Prop):Prop :=
 match s.g with
 |none=>wpO E id T hs s.op K
 |some (t,w)=>ok (T.get t) fun v=>ok (v.guard? w) fun q=>if q=w then wpO E id T hs s.op K else K undefV hs
def Rs(E:Env)(sz:Nat):List SOp->Nat->PT V->HS->(PT V->HS->Prop)->Prop
 | [],_,T,hs,R=>R T hs
 |s::l,id,T,hs,R=>wpS E id T hs s fun v hs'=>put sz T s.d v fun T1=>Rs E sz l (id+1) T1 hs' R
theorem zvT {id:Nat} {op:Op} {K:V->HS->Prop} (h:wpO E id T hs op K):(zt op≠0->hs.H.get id=none) /\
 ((zb4 op=none/\ok (opJ E.P false T hs id (opR op)) fun r=>K r.1 r.2)\/(∃ c,zb4 op=some c/\ok (za6 T c.args.toList) fun vs =>
   (∃ b,c.callee=.builtin b/\ok (zbl E.P hs id b c.argTypes.toList vs) fun r=>K r.1 r.2)\/∃ x f caps,c.callee=.value x/\zk T x=some (.func f caps)/\ok (E.con f (zbt vs caps) hs) fun r=>K r.1 r.2)):=by
 unfold wpO at h;split at h
 . rename_i c;split at h
   . rename_i b hb;exact⟨h.1,.inr ⟨c,rfl,z4B h.2 fun vs hv=>.inl ⟨b,hb,hv⟩⟩⟩
   . rename_i x hx;obtain⟨h1,v,hv,p,hp,vs,hvs,h2⟩:=h;obtain⟨f,caps⟩:=p
     have e:v=.func f caps:=by
      unfold funcOf at hp;split at hp
      . cases hp;rfl
      . cases hp
     subst e;exact⟨fun _=>h1,.inr ⟨c,rfl,vs,hvs,.inr ⟨x,f,caps,hx,hv,h2⟩⟩⟩
   . exact h.elim
 . rename_i hne;refine⟨h.1,.inl ⟨?_,h.2⟩⟩;cases op<;>first|rfl|exact absurd rfl (hne _)
theorem z4d {ops:List Oper} {id:Nat} {o:Oper} {n:Nat} {K:PT V->HS->Prop} {q:Bool} (hw:zdF ops T o=some q)
 (h:if q=true then wpO E id T hs o.op (fun v hs'=>put sz T o.dst v fun T1=>K T1 hs')else put sz T o.dst undefV fun T1=>K T1 hs) :
 ∃ r,zcA E (evJ E n) sz ops o id T hs=some r/\K r.1 r.2:=by
 cases q with
 | false =>
   rw[if_neg (by simp)]at h;obtain⟨T1,h4,h5⟩:=zmc h;refine⟨(T1,hs),?_,h5⟩;show (ob (zdF ops T o) fun w=>bi w _ _)=_;rw[hw,zB,zF,h4];rfl
 | true =>
   rw[if_pos rfl]at h;obtain⟨h1,h2⟩:=zvT h
   have hv:bi (Nat.beq (zt o.op) 0) true (zaz hs id)=true:=by
    grind [zal,vacant_eq,beq_true]
   have fin:∀ r:V×HS,stepJ E (evJ E n) false T hs id o=some r->(put sz T o.dst r.1 fun T1=>K T1 r.2)->∃ r,zcA E (evJ E n) sz ops o id T hs=some r/\K r.1 r.2:=by
    intro r hst hp;obtain⟨T1,h4,h5⟩:=zmc hp;refine⟨(T1,r.2),?_,h5⟩;show (ob (zdF ops T o) fun w=>bi w _ _)=_
    grind [zB,zU,zbR]
   rcases h2 with⟨hc,r,h2,h3⟩|⟨c,hc,vs,hvs,h2⟩
   . exact fin r (by unfold stepJ;rw[hc];exact h2) h3
   . rcases h2 with⟨b,hb,r,h2,h3⟩|⟨x,f,caps,hx,hxv,r,h2,h3⟩
     . refine fin r ?_ h3;unfold stepJ;rw[hc];show (ob (za6 T c.args.toList) fun vs=>_)=_
       grind [zB]
     . refine fin r ?_ h3;unfold stepJ;rw[hc];show (ob (za6 T c.args.toList) fun vs=>_)=_
       grind [zB,ob,zk,zi1,evJ,zfU,zbt,zai]
theorem zJP {ops:List Oper}:∀ {l:List Oper} {s:List SOp} {id:Nat} {T:PT V} {hs:HS} {R:PT V->HS->Prop},stripL ops l=some s->Rs E sz s id T hs R->Ro E sz ops l id T hs R:=by
 intro l
 induction l with
 | nil =>
   intro s id T hs R h hr;cases h;rw[zD6];exact hr
 | cons o l ih =>
   intro s id T hs R h hr;unfold stripL at h;split at h
   . rename_i g r hg hl;cases h;have hr':wpS E id T hs ⟨o.dst,o.op,g⟩ fun v hs'=>put sz T o.dst v fun T1=>Rs E sz r (id+1) T1 hs' R:=hr
     unfold wpS at hr'
     have hst:∃ q,zdF ops T o=some q/\(if q=true then wpO E id T hs o.op (fun v hs'=>put sz T o.dst v fun T1=>Rs E sz r (id+1) T1 hs' R)else put sz T o.dst undefV fun T1=>Rs E sz r (id+1) T1 hs R):=by
      unfold znc at hg;split at hg
      . rename_i hgn;cases hg;refine⟨true,?_,by rw[if_pos rfl];exact hr'⟩;unfold zdF;rw[hgn];rfl
      . rename_i j w hgn;split at hg
        . rename_i p hp;split at hg
          . rename_i d hd;cases hg;obtain⟨v,hv,q,hq,h2⟩:=hr';refine⟨zdm q w,?_,?_⟩
            . unfold zdF;rw[hgn,zai];show (ob (zeJ ops j) fun p=>_)=_;rw[zbM,hp,zB,hd,zB,hv,zB];exact V.guard?_want hq
            . by_cases e:q=w
              . rw[if_pos e]at h2;rw[if_pos (by rw[e];cases w<;>rfl)];exact h2
              . rw[if_neg e]at h2;rw[if_neg (by revert e;cases w<;>cases q<;>simp[zdm,bi,nt])];exact h2
          . cases hg
        . cases hg
     obtain⟨q,hw,h3⟩:=hst;obtain⟨r1,h4,h5⟩:=z4d (n:=0) hw h3
     grind [z6T]
   . cases h
def Js(E:Env)(rd:Bool)(sz:Nat)(s:SC)(T:PT V)(hs:HS)(Q:Ex->PT V->HS->Prop):Prop:=∀ c,zh c=some s->Jc E rd sz c T hs Q
theorem zbf{c:Code}{s:SC}(h:zh c=some s):match s with
 |.draw l bs=>∃ id ops,c=.region id ops true/\zgA ops.toList ops.toList=some l/\zlo ops.toList=some bs
 |.skip=>c=.skip
 |.ret=>c=.ret
 |.exit i=>c=.exit i
 |.reg l=>∃ id ops,c=.region id ops false/\stripL ops.toList ops.toList=some l
 |.seq a b=>∃ x y,c=.seq x y/\zh x=some a/\zh y=some b
 |.cond q a b=>∃ x y,c=.cond q x y/\zh x=some a/\zh y=some b
 |.block i a=>∃ x,c=.block i x/\zh x=some a
 |.loop a=>∃ x,c=.loop x/\zh x=some a
 |.range g ps a b=>∃ x y,c=.rangeFunc g ps x y/\zh x=some a/\zh y=some b:=by
 cases c with
 |skip=>cases h;rfl
 |ret=>cases h;rfl
 |exit i=>cases h;rfl
 | region id ops draw =>
   cases draw with
   | true =>
     grind [zh,id]
   | false =>
     grind [zh,id]
 | seq x y =>
   grind [zh]
 | cond q x y =>
   grind [zh]
 | block i x =>
   grind [zh]
 | rangeFunc g ps x y =>
   grind [zh]
 | loop x =>
   grind [zh]
 |_=>cases h
theorem zDD{l:List SOp}(h:Rs E sz l hs.n T { H:=hs.H,n:=hs.n+l.length,log:=hs.log } fun T hs=>Q .normal T hs):Js E rd sz (.reg l) T hs Q:=fun c hc=>by
 obtain⟨id,ops,rfl,hl⟩:=zbf hc
 have hlen:∀ {m:List Oper} {s:List SOp},stripL ops.toList m=some s->s.length=m.length:=by
  intro m
  induction m with
  |nil=>intro s h;cases h;rfl
  | cons o m ih =>
    intro s h;unfold stripL at h;split at h
    . rename_i g r hg hr;cases h;simp[ih hr]
    . cases h
 rw[hlen hl]at h;have:=zv2 (id:=id) (rd:=rd) (Q:=Q) (zJP hl h);simpa using this
end
section
variable {E:Env}{rd:Bool}{sz:Nat}{T:PT V}{hs:HS}{Q:Ex->PT V->HS->Prop}
def z98 (E:Env) (id:Nat) (T:PT V) (hs:HS) (op:Op) (K:V->HS->List Nat×List Nat->Prop):Prop :=
 match zt op with
 | 0 => match op with
   | .call c=>match c.callee with
     |.builtin b=>ok (za6 T c.args.toList) fun vs=>ok (zbl E.P { H:=zW hs.H (readsOf T op),n:=0,log:=[] } id b c.argTypes.toList vs) fun r=>K r.1 hs (readsOf T op,[])
     |_=>False
   |op=>ok (opJ E.P true T { H:=zW hs.H (readsOf T op),n:=0,log:=[] } id (opR op)) fun r=>K r.1 hs (readsOf T op,[])
 | 1=>hs.H.get id=none/\ok (opJ E.P true T { H:=.leaf,n:=0,log:=[] } id (opR op)) fun r=>ok (r.2.H.get id) fun o'=>o'.fz=false/\K r.1 (hs.put id o') ([id],[])
 | _ => hs.H.get id=none/\(match op with
   | .call c=>match c.callee with
     |.builtin b=>ok (za6 T c.args.toList) fun vs=>ok (zbl E.P { H:=hs.H,n:=hs.n,log:=[] } id b c.argTypes.toList vs) fun r=>K r.1 { H:=r.2.H,n:=r.2.n,log:=zbt r.2.log hs.log } ([],r.2.log)
     |.value x=>ok (zk T x) fun v=>ok (funcOf v) fun p=>ok (za6 T c.args.toList) fun vs=>ok (E.con p.1 (zbt vs p.2) { H:=hs.H,n:=hs.n,log:=[] }) fun r=>K r.1 { H:=r.2.H,n:=r.2.n,log:=zbt r.2.log hs.log } ([],r.2.log)
     |.invoke _ _=>False
   |op=>ok (opJ E.P true T { H:=hs.H,n:=hs.n,log:=[] } id (opR op)) fun r=>K r.1 { H:=r.2.H,n:=r.2.n,log:=zbt r.2.log hs.log } ([],r.2.log))
def wpD(E:Env)(id:Nat)(T:PT V)(hs:HS)(op:Op)(K:V->HS->List Nat×List Nat->Prop):Prop :=
 match op with
 |.store t a x=>hs.H.get id=none/\ok (zaB E.P T { H:=zW hs.H (zbC T hs (.store t a x)),n:=0,log:=[] } t a x) fun r=>K r.1 { H:=zk0 hs.H r.2.H (zbC T hs (.store t a x)),n:=hs.n,log:=zbt r.2.log hs.log } (zbC T hs (.store t a x),r.2.log)
 |op=>z98 E id T hs op K
def z3H(E:Env)(id:Nat)(T:PT V)(hs:HS)(s:SD)(K:V->HS->List Nat×List Nat->Prop):Prop :=
 match s.g with
 |none=>wpD E id T hs s.op K
 |some (t,w)=>ok (T.get t) fun v=>ok (v.guard? w) fun q=>if q=w then wpD E id T hs s.op K else K undefV hs ([],[])
def Rd(E:Env)(sz:Nat):List SD->Nat->PT V->HS->List (List Nat×List Nat)->(PT V->HS->List (List Nat×List Nat)->Prop)->Prop
 | [],_,T,hs,acc,R=>R T hs acc
 |s::l,id,T,hs,acc,R=>z3H E id (zW T s.lk) hs s fun v hs' rw=>put sz T s.d v fun T1=>Rd E sz l (id+1) T1 hs' (zbt acc [rw]) R
theorem zvU {id:Nat} {o:Oper} {n:Nat} {K:V->HS->List Nat×List Nat->Prop} (h:z98 E id T hs o.op K):∃ r,zdk E (evJ E n) o id T hs=some r/\K r.1 r.2.1 r.2.2:=by
 unfold z98 at h
 have hcall:∀ {hs0:HS} {c:Call} {b:Builtin} {vs:List V} {r:V×HS},zb4 o.op=some c->c.callee=.builtin b->za6 T c.args.toList=some vs->zbl E.P hs0 id b c.argTypes.toList vs=some r->stepJ E (evJ E n) true T hs0 id o=some r:=by
  intro hs0 c b vs r h1 h2 h3 h4;unfold stepJ;rw[h1];show (ob (za6 T c.args.toList) fun vs=>_)=_;rw[h3,zB,h2];exact h4
 have hop:∀ {hs0:HS} {r:V×HS},zb4 o.op=none->opJ E.P true T hs0 id (opR o.op)=some r->stepJ E (evJ E n) true T hs0 id o=some r:=by
  intro hs0 r h1 h2;unfold stepJ;rw[h1];exact h2
 have hnone:∀ {op:Op},(∀ c,op≠.call c)->zb4 op=none:=by
  intro op h;cases op<;>first|rfl|exact absurd rfl (h _)
 split at h
 . rename_i hc
   have key:∀ r:V×HS,stepJ E (evJ E n) true T { H:=zW hs.H (readsOf T o.op),n:=0,log:=[] } id o=some r->zdk E (evJ E n) o id T hs=some (r.1,hs,readsOf T o.op,[]):=by
    intro r hr;unfold zdk;rw[hc];show (ob (stepJ E (evJ E n) true T { H:=zW hs.H (readsOf T o.op),n:=0,log:=[] } id o) fun r=>some (r.1,hs,readsOf T o.op,[]))=_;rw[hr];rfl
   split at h
   . rename_i c hcc;split at h
     . rename_i b hb;obtain⟨vs,hvs,r,hr,hk⟩:=h;have hco:zb4 o.op=some c:=by rw[hcc];rfl
       exact⟨_,key r (hcall hco hb hvs hr),hk⟩
     . exact h.elim
   . rename_i hne;obtain⟨r,hr,hk⟩:=h;exact⟨_,key r (hop (hnone hne) hr),hk⟩
 . rename_i hc;obtain⟨h0,r,hr,o',ho,hz,hk⟩:=h;refine⟨(r.1,hs.put id o',[id],[]),?_,hk⟩;unfold zdk;rw[hc];show (gd (zaz hs id) (ob (stepJ E (evJ E n) true T { H:=.leaf,n:=0,log:=[] } id o) fun r=>ob (r.2.H.get id) fun o'=>gd (nt o'.fz) (some (r.1,hs.put id o',[id],[]))))=_;rw[vacant_eq.2 h0,zbR,hop (zhM hc) hr,zB,ho,zB,hz];rfl
 . rename_i hc0 hc1;obtain⟨h0,h⟩:=h
   have hc:zt o.op=2:=by
    rcases ziF o.op with h|h|h
    . exact absurd h hc0
    . exact absurd h hc1
    . exact h
   have key:∀ r:V×HS,stepJ E (evJ E n) true T { H:=hs.H,n:=hs.n,log:=[] } id o=some r->zdk E (evJ E n) o id T hs=some (r.1,{ H:=r.2.H,n:=r.2.n,log:=zbt r.2.log hs.log },[],r.2.log):=by
    intro r hr;unfold zdk;rw[hc];show (gd (zaz hs id) (ob (stepJ E (evJ E n) true T { H:=hs.H,n:=hs.n,log:=[] } id o) fun r=>some (r.1,({ H:=r.2.H,n:=r.2.n,log:=zbt r.2.log hs.log }:HS),([]:List Nat),r.2.log)))=_;rw[vacant_eq.2 h0,zbR,hr];rfl
   split at h
   . rename_i c hcc;have hco:zb4 o.op=some c:=by rw[hcc];rfl
     split at h
     . rename_i b hb;obtain⟨vs,hvs,r,hr,hk⟩:=h;exact⟨_,key r (hcall hco hb hvs hr),hk⟩
     . rename_i x hx;obtain⟨v,hv,p,hp,vs,hvs,r,hr,hk⟩:=h;obtain⟨f,caps⟩:=p
       have e:v=.func f caps:=by
        unfold funcOf at hp;split at hp
        . cases hp;rfl
        . cases hp
       subst e;refine⟨_,key r ?_,hk⟩;unfold stepJ;rw[hco];show (ob (za6 T c.args.toList) fun vs=>_)=_;rw[hvs,zB,hx];show (ob (zk T x) fun v=>zi1 E (evJ E n) v vs _)=_;rw[hv,zB];show zfU E (evJ E n) f (zbt vs caps) _=some r;unfold zfU;rw[hr,zai]
     . exact h.elim
   . rename_i hne;obtain⟨r,hr,hk⟩:=h;exact⟨_,key r (hop (hnone hne) hr),hk⟩
theorem zpJ{id:Nat}{o:Oper}{n:Nat}{K:V->HS->List Nat×List Nat->Prop}(h:wpD E id T hs o.op K):∃ r,zcS E (evJ E n) o id T hs=some r/\K r.1 r.2.1 r.2.2:=by
 unfold wpD at h;unfold zcS;split at h
 . rename_i t a x hop;obtain⟨h0,r,hr,hk⟩:=h;have hs0:zax o.op=true:=by rw[hop];rfl
   rw[hs0,zU];unfold ziU;rw[vacant_eq.2 h0,zbR,hop,zc6 hop,hr,zB]
   grind
 . rename_i hne
   have hs0:zax o.op=false:=by
    simp[zax]
   rw[hs0,zF];exact zvU h
theorem zJR {ops:List Oper} {n:Nat}:∀ {l:List Oper} {s:List SD} {id:Nat} {T:PT V} {hs:HS} {acc:List (List Nat×List Nat)} {R:PT V->HS->List (List Nat×List Nat)->Prop},zgA ops l=some s->Rd E sz s id T hs acc R ->
 ∃ T' hs' acc',zcj E (evJ E n) sz ops l id T hs acc=some ((T',hs'),acc')/\R T' hs' acc':=by
 intro l
 induction l with
 | nil =>
   intro s id T hs acc R h hr;cases h;exact⟨T,hs,acc,rfl,hr⟩
 | cons o l ih =>
   intro s id T hs acc R h hr;unfold zgA at h;split at h
   . rename_i g r hg hl;cases h;have hr':z3H E id (zW T (looks ops o)) hs ⟨o.dst,o.op,g,looks ops o⟩ fun v hs' rw=>put sz T o.dst v fun T1=>Rd E sz r (id+1) T1 hs' (zbt acc [rw]) R:=hr
     unfold z3H at hr'
     have hst:∃ q,zan E (evJ E n) ops o id (zW T (looks ops o)) hs=some q/\put sz T o.dst q.1 fun T1=>Rd E sz r (id+1) T1 q.2.1 (zbt acc [q.2.2]) R:=by
      unfold znc at hg;split at hg
      . rename_i hgn;cases hg;obtain⟨q,h1,h2⟩:=zpJ (n:=n) hr';refine⟨q,?_,h2⟩;have hw:zdF ops (zW T (looks ops o)) o=some true:=by unfold zdF;rw[hgn];rfl
        grind [zan,zB,zU]
      . rename_i j w hgn;split at hg
        . rename_i p hp;split at hg
          . rename_i d hd;cases hg;obtain⟨v,hv,q,hq,h2⟩:=hr'
            have hw:zdF ops (zW T (looks ops o)) o=some (zdm q w):=by
             unfold zdF;rw[hgn,zai];show (ob (zeJ ops j) fun p=>_)=_;rw[zbM,hp,zB,hd,zB,hv,zB];exact V.guard?_want hq
            by_cases e:q=w
            . rw[if_pos e]at h2;obtain⟨q1,h3,h4⟩:=zpJ (n:=n) h2;refine⟨q1,?_,h4⟩;unfold zan;rw[hw,zB,show zdm q w=true by rw[e];cases w<;>rfl,zU];exact h3
            . rw[if_neg e]at h2;refine⟨(undefV,hs,[],[]),?_,h2⟩;unfold zan;rw[hw,zB,show zdm q w=false by revert e;cases w<;>cases q<;>simp[zdm,bi,nt],zF]
          . cases hg
        . cases hg
     obtain⟨q,h1,h2⟩:=hst;obtain⟨T1,h3,h4⟩:=zmc h2;obtain⟨T',hs',acc',h5,h6⟩:=ih hl h4;refine⟨T',hs',acc',?_,h6⟩;show (ob (zan E (evJ E n) ops o id (zW T (looks ops o)) hs) fun r=>ob (zlH sz T o.dst r.1) fun T'=>zcj E (evJ E n) sz ops l (id+1) T' r.2.1 (zbt acc [r.2.2]))=_
     grind [zB]
   . cases h
theorem z7b{l:List SD}{bs:List Nat}(h:Rd E sz l hs.n T { H:=hs.H,n:=hs.n+l.length,log:=hs.log } [] fun T hs acc=>zbZ acc acc 0 bs=true/\Q .normal T hs):Js E rd sz (.draw l bs) T hs Q:=fun c hc=>by
 obtain⟨id,ops,rfl,hl,hb⟩:=zbf hc
 have hlen:∀ {m:List Oper} {s:List SD},zgA ops.toList m=some s->s.length=m.length:=by
  intro m
  induction m with
  |nil=>intro s h;cases h;rfl
  | cons o m ih =>
    intro s h;unfold zgA at h;split at h
    . rename_i g r hg hr;cases h;simp[ih hr]
    . cases h
 rw[hlen hl]at h;obtain⟨T',hs',acc',h1,h2,h3⟩:=zJR (n:=0) hl h;refine⟨1,.normal,T',hs',?_,h3⟩;show (ob (bi true (zlp E (evJ E 0) sz ops.toList T hs) _) fun r=>some (Ex.normal,r.1,r.2))=_;rw[zU]
 have hd:zlp E (evJ E 0) sz ops.toList T hs=some (T',hs'):=by
  show (ob (zlo ops.toList) fun bs=>ob (zcj E (evJ E 0) sz ops.toList ops.toList hs.n T { H:=hs.H,n:=hs.n+zC ops.toList,log:=hs.log } []) fun r=>gd (zbZ r.2 r.2 0 bs) (some r.1))=_;rw[hb,zB,zz,h1,zB,h2,zbR]
 rw[hd];rfl
end
def Leaves(P:Program)(fn:Func)(K:V->HS->Prop)(ex:Ex)(T:PT V)(hs:HS):Prop:=(∀ i,ex≠.exit i)/\ok (zpC P T hs fn.results.toList) fun l=>K (ze2 l) hs
def Gives(r:V)(v:V)(hs:HS):Prop:=still hs v=some r
theorem zjd{P:Program}{fn:Func}{K:V->HS->Prop}{T:PT V}{hs:HS}:Leaves P fn K .ret T hs=ok (zpC P T hs fn.results.toList) fun l=>K (ze2 l) hs :=
 propext ⟨fun h=>h.2,fun h=>⟨fun i h=>(by cases h),h⟩⟩
theorem zf4{P:Program}{fn:Func}{K:V->HS->Prop}{T:PT V}{hs:HS}:Leaves P fn K .normal T hs=ok (zpC P T hs fn.results.toList) fun l=>K (ze2 l) hs :=
 propext ⟨fun h=>h.2,fun h=>⟨fun i h=>(by cases h),h⟩⟩
end Go.J
