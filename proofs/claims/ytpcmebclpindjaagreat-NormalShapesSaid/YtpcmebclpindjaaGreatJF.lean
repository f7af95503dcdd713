import Derived.Test.YtpcmebclpindjaaGreatJE
set_option linter.all false
noncomputable section
/- More depth changes no result. -/
namespace Go.J
structure EvLe(a b:Ev):Prop where
 code:∀ {rd sz c T hs r},a.code rd sz c T hs=some r->b.code rd sz c T hs=some r
 call:∀ {f vs hs r},a.call f vs hs=some r->b.call f vs hs=some r
section
variable {E:Env}{a b:Ev}{T:PT V}{hs:HS}
theorem zrh (h:EvLe a b) {f:FuncId} {vs:List V} {r:V×HS} (hr:zed E a f vs hs=some r):zed E b f vs hs=some r:=by
 unfold zed at hr ⊢
 cases hp:E.pol f with
 | zero =>
   rw[hp]at hr;replace hr:bi (zw vs) (zbk a f vs hs) (a.call f vs hs)=some r:=hr;show bi (zw vs) (zbk b f vs hs) (b.call f vs hs)=some r;rw[zaf]at hr ⊢;split at hr
   . rename_i hb;rw[if_pos hb];simp only[zbk,za]at hr ⊢;obtain⟨q,h1,h2⟩:=hr;exact⟨q,h.call h1,h2⟩
   . rename_i hb;rw[if_neg hb];exact h.call hr
 | succ m =>
   rw[hp]at hr
   cases m with
   |zero=>exact h.call hr
   | succ m =>
    cases m with
    |succ m =>
     replace hr:zcB a f vs hs=some r:=hr;show zcB b f vs hs=some r;simp only[zcB,za]at hr ⊢;obtain⟨q,h1,h2⟩:=hr;exact⟨q,h.call h1,h2⟩
    |zero =>
     replace hr:orc (a.call f vs hs) (fun args'=>za6 a f args' hs) (zaw hs vs)=some r:=hr;show orc (b.call f vs hs) (fun args'=>za6 b f args' hs) (zaw hs vs)=some r
     cases hs1:zaw hs vs with
     |none=>rw[hs1]at hr;exact h.call hr
     | some args' =>
       rw[hs1]at hr;replace hr:za6 a f args' hs=some r:=hr;show za6 b f args' hs=some r;simp only[za6,za,zk]at hr ⊢;obtain⟨q,h1,h2⟩:=hr;exact⟨q,h.call h1,h2⟩
theorem ztt(h:EvLe a b){f:FuncId}{vs:List V}{r:V×HS}(hr:zeL E a f vs hs=some r):zeL E b f vs hs=some r:=by
 unfold zeL at hr ⊢
 cases hq:E.con f vs hs with
 |none=>rw[hq]at hr;exact zrh h hr
 |some q=>rw[hq]at hr;exact hr
theorem zn9(h:EvLe a b){id:Nat}{vs:List V}{r:V×HS}(hr:zfm a id vs hs=some r):zfm b id vs hs=some r:=by
 simp only[zfm,za,zk]at hr ⊢;obtain⟨o,h1,l,h2,h3,T,h4,q,h5,h6,o1,h7,l1,h8,h9,p,h10,h11⟩:=hr;exact⟨o,h1,l,h2,h3,T,h4,q,h.code h5,h6,o1,h7,l1,h8,h9,p,h.code h10,h11⟩
theorem zeu(h:EvLe a b){dr:Bool}{id:Nat}{o:Oper}{r:V×HS}(hr:stepJ E a dr T hs id o=some r):stepJ E b dr T hs id o=some r:=by
 unfold stepJ at hr ⊢
 cases hc:zbr o.op with
 |none=>rw[hc]at hr;exact hr
 | some c =>
   rw[hc]at hr;replace hr:zbK E a T hs id c=some r:=hr;show zbK E b T hs id c=some r;simp only[zbK,za]at hr ⊢;obtain⟨vs,h1,h2⟩:=hr;refine⟨vs,h1,?_⟩
   cases hcal:c.callee with
   |builtin bb=>rw[hcal]at h2;exact h2
   | value x =>
     rw[hcal]at h2;simp only[za]at h2 ⊢;obtain⟨v,h3,h4⟩:=h2;refine⟨v,h3,?_⟩;unfold zhq at h4 ⊢
     cases v with
     |func f cs=>exact ztt h h4
     |yld id=>exact zn9 h h4
     |_=>cases h4
   |invoke x n=>rw[hcal]at h2;cases h2
theorem zj1(h:EvLe a b){sz id:Nat}{ops:List Oper}{o:Oper}{r:PT V×HS}(hr:zcv E a sz ops o id T hs=some r):zcv E b sz ops o id T hs=some r:=by
 simp only[zcv,za]at hr ⊢;obtain⟨w,h1,h2⟩:=hr;refine⟨w,h1,?_⟩;rw[zaf]at h2 ⊢;split at h2
 . rename_i hw;rw[if_pos hw];simp only[zk,za]at h2 ⊢;obtain⟨h3,q,h4,h5⟩:=h2;exact⟨h3,q,zeu h h4,h5⟩
 . rename_i hw;rw[if_neg hw];exact h2
theorem zhv(h:EvLe a b){sz:Nat}{ops:List Oper}:∀ {l:List Oper} {id:Nat} {T:PT V} {hs:HS} {r:PT V×HS},zbA E a sz ops l id T hs=some r->zbA E b sz ops l id T hs=some r:=by
 intro l
 induction l with
 |nil=>intro id T hs r hr;exact hr
 | cons o l ih =>
   intro id T hs r hr;replace hr:(ob (zcv E a sz ops o id T hs) fun r=>zbA E a sz ops l (id+1) r.1 r.2)=some r:=hr;show (ob (zcv E b sz ops o id T hs) fun r=>zbA E b sz ops l (id+1) r.1 r.2)=some r;simp only[za]at hr ⊢;obtain⟨q,h1,h2⟩:=hr;exact⟨q,zj1 h h1,ih h2⟩
theorem zqS(h:EvLe a b){o:Oper}{id:Nat}{r:V×HS×List Nat×List Nat}(hr:zcO E a o id T hs=some r):zcO E b o id T hs=some r:=by
 unfold zcO at hr ⊢
 cases hc:zu o.op with
 | zero =>
   rw[hc]at hr;replace hr:(ob (stepJ E a true T { H:=zW hs.H (readsOf T o.op),n:=0,log:=[] } id o) fun r=>some (r.1,hs,readsOf T o.op,[]))=some r:=hr;show (ob (stepJ E b true T { H:=zW hs.H (readsOf T o.op),n:=0,log:=[] } id o) fun r=>some (r.1,hs,readsOf T o.op,[]))=some r;simp only[za]at hr ⊢;obtain⟨q,h1,h2⟩:=hr;exact⟨q,zeu h h1,h2⟩
 | succ m =>
   rw[hc]at hr
   cases m with
   | zero =>
     replace hr:(gd (zaP hs id) (ob (stepJ E a true T { H:=.leaf,n:=0,log:=[] } id o) fun r=>ob (r.2.H.get id) fun o'=>gd (nt o'.fz) (some (r.1,hs.put id o',[id],[]))))=some r:=hr;show (gd (zaP hs id) (ob (stepJ E b true T { H:=.leaf,n:=0,log:=[] } id o) fun r=>ob (r.2.H.get id) fun o'=>gd (nt o'.fz) (some (r.1,hs.put id o',[id],[]))))=some r;simp only[za,zk]at hr ⊢;obtain⟨h0,q,h1,h2⟩:=hr;exact⟨h0,q,zeu h h1,h2⟩
   | succ m =>
     replace hr:(gd (zaP hs id) (ob (stepJ E a true T { H:=hs.H,n:=hs.n,log:=[] } id o) fun r=>some (r.1,{ H:=r.2.H,n:=r.2.n,log:=zbh r.2.log hs.log },[],r.2.log)))=some r:=hr;show (gd (zaP hs id) (ob (stepJ E b true T { H:=hs.H,n:=hs.n,log:=[] } id o) fun r=>some (r.1,{ H:=r.2.H,n:=r.2.n,log:=zbh r.2.log hs.log },[],r.2.log)))=some r;simp only[za,zk]at hr ⊢;obtain⟨h0,q,h1,h2⟩:=hr;exact⟨h0,q,zeu h h1,h2⟩
theorem zmN(h:EvLe a b){o:Oper}{id:Nat}{r:V×HS×List Nat×List Nat}(hr:zcA E a o id T hs=some r):zcA E b o id T hs=some r:=by
 unfold zcA at hr ⊢;rw[zaf]at hr ⊢;split at hr
 . rename_i hs0;rw[if_pos hs0];simp only[zhL,za,zk]at hr ⊢;obtain⟨h0,q,h1,h2⟩:=hr;exact⟨h0,q,zeu h h1,h2⟩
 . rename_i hs0;rw[if_neg hs0];exact zqS h hr
theorem zmw(h:EvLe a b){sz:Nat}{ops:List Oper}:∀ {l:List Oper} {id:Nat} {T:PT V} {hs:HS} {acc:List (List Nat×List Nat)} {r:(PT V×HS)×List (List Nat×List Nat)},
 zbT E a sz ops l id T hs acc=some r->zbT E b sz ops l id T hs acc=some r:=by
 intro l
 induction l with
 |nil=>intro id T hs acc r hr;exact hr
 | cons o l ih =>
   intro id T hs acc r hr;replace hr:(ob (zal E a ops o id (zW T (looks ops o)) hs) fun r=>ob (zkn sz T o.dst r.1) fun T'=>zbT E a sz ops l (id+1) T' r.2.1 (zbh acc [r.2.2]))=some r:=hr;show (ob (zal E b ops o id (zW T (looks ops o)) hs) fun r=>ob (zkn sz T o.dst r.1) fun T'=>zbT E b sz ops l (id+1) T' r.2.1 (zbh acc [r.2.2]))=some r;simp only[za]at hr ⊢;obtain⟨q,h1,T',h2,h3⟩:=hr;refine⟨q,?_,T',h2,ih h3⟩;simp only[zal,za]at h1 ⊢;obtain⟨w,h4,h5⟩:=h1;refine⟨w,h4,?_⟩;rw[zaf]at h5 ⊢;split at h5
   . rename_i hw;rw[if_pos hw];exact zmN h h5
   . rename_i hw;rw[if_neg hw];exact h5
theorem zzc(h:EvLe a b){sz:Nat}{l:List Oper}{draw:Bool}{r:Ex×PT V×HS}(hr:zzd E a sz l draw T hs=some r):zzd E b sz l draw T hs=some r:=by
 simp only[zzd,za]at hr ⊢;obtain⟨q,h1,h2⟩:=hr;refine⟨q,?_,h2⟩;rw[zaf]at h1 ⊢;split at h1
 . rename_i hd;rw[if_pos hd];simp only[zjT,za,zk]at h1 ⊢;obtain⟨bs,h3,p,h4,h5⟩:=h1;exact⟨bs,h3,p,zmw h h4,h5⟩
 . rename_i hd;rw[if_neg hd];exact zhv h h1
theorem zn6(h:EvLe a b){rd:Bool}{sz:Nat}{c:Code}{q r:Ex×PT V×HS}(hr:zr3 a rd sz c q=some r):zr3 b rd sz c q=some r:=by
 unfold zr3 at hr ⊢
 cases hq:q.1 with
 |normal=>rw[hq]at hr;exact h.code hr
 |ret=>rw[hq]at hr;exact hr
 |exit i=>rw[hq]at hr;exact hr
theorem ztl(h:EvLe a b){rd:Bool}{sz:Nat}{c:Code}{r:Ex×PT V×HS}(hr:zkf E a rd sz c T hs=some r):zkf E b rd sz c T hs=some r:=by
 cases c<;>simp only[zkf]at hr ⊢<;>first|exact hr|exact zzc h hr|skip
 case seq x y =>
  simp only[za]at hr ⊢;obtain⟨q,h1,h2⟩:=hr;exact⟨q,h.code h1,zn6 h h2⟩
 case cond q x y =>
  simp only[za]at hr ⊢;obtain⟨v,h1,t,h2,h3⟩:=hr;refine⟨v,h1,t,h2,?_⟩;rw[zaf]at h3 ⊢;split at h3
  . rename_i hw;rw[if_pos hw];exact h.code h3
  . rename_i hw;rw[if_neg hw];exact h.code h3
 case block id body =>
  simp only[za]at hr ⊢;obtain⟨q,h1,h2⟩:=hr;exact⟨q,h.code h1,h2⟩
 case loop body =>
  simp only[za]at hr ⊢;obtain⟨q,h1,h2⟩:=hr;exact⟨q,h.code h1,zn6 h h2⟩
 case rangeFunc g ps assign body =>
  simp only[zk,za,zjb]at hr ⊢;obtain⟨h1,v,h2,p,h3,h4,q,h5,h6⟩:=hr;exact⟨h1,v,h2,p,h3,h4,q,h.call h5,h6⟩
theorem zt0(h:EvLe a b){f:FuncId}{vs:List V}{r:V×HS}(hr:zho E a f vs hs=some r):zho E b f vs hs=some r:=by
 simp only[zho,za]at hr ⊢;obtain⟨fn,h1,c,h2,T,h3,q,h4,h5⟩:=hr;exact⟨fn,h1,c,h2,T,h3,q,h.code h4,h5⟩
theorem zlT(E:Env):∀ n,EvLe (evJ E n) (evJ E (n+1)):=by
 intro n
 induction n with
 |zero=>exact⟨fun h=>(by cases h),fun h=>(by cases h)⟩
 |succ n ih=>exact⟨fun h=>ztl ih h,fun h=>zt0 ih h⟩
theorem zyk(E:Env){m n:Nat}(h:m<=n):EvLe (evJ E m) (evJ E n):=by
 induction h with
 |refl=>exact⟨fun h=>h,fun h=>h⟩
 |step _ ih=>exact⟨fun h=>(zlT E _).code (ih.code h),fun h=>(zlT E _).call (ih.call h)⟩
end
end Go.J
/- Symbolic runs of the evaluator: a small calculus. -/
namespace Go.J
def ok{α:Type}(x:Option α)(K:α->Prop):Prop:=∃ a,x=some a/\K a
theorem zm{α:Type}(a:α)(K:α->Prop):ok (some a) K=K a:=propext ⟨fun ⟨b,h,k⟩=>by cases h;exact k,fun k=>⟨a,rfl,k⟩⟩
theorem zZ{α β:Type}(x:Option α)(f:α->Option β)(K:β->Prop):ok (ob x f) K=ok x fun a=>ok (f a) K:=by
 cases x with
 |none=>exact propext ⟨fun ⟨b,h,_⟩=>(by cases h),fun ⟨b,h,_⟩=>(by cases h)⟩
 |some a=>rw[zA,zm]
theorem zcd{α:Type}(c:Bool)(x:Option α)(K:α->Prop):ok (gd c x) K=(c=true/\ok x K):=by
 cases c with
 |true=>rw[zb3];simp
 |false=>rw[zlK];exact propext ⟨fun ⟨b,h,_⟩=>(by cases h),fun ⟨h,_⟩=>(by cases h)⟩
theorem zzl{α:Type}{x:Option α}{K K':α->Prop}(h:ok x K)(hk:∀ a,K a->K' a):ok x K':=let ⟨a,h1,h2⟩:=h;⟨a,h1,hk a h2⟩
def br(c A B:Prop):Prop:=(c->A)/\(¬ c->B)
theorem z0F(c:Prop) [Decidable c](A B:Prop):br c A B=if c then A else B:=by
 by_cases h:c<;>simp[br,h]
theorem zrj(A B:Prop):br True A B=A:=by simp[br]
theorem zma(A B:Prop):br False A B=B:=by simp[br]
section
variable {E:Env}{rd:Bool}{sz:Nat}{T:PT V}{hs:HS}{Q:Ex->PT V->HS->Prop}
def Jc(E:Env)(rd:Bool)(sz:Nat)(c:Code)(T:PT V)(hs:HS)(Q:Ex->PT V->HS->Prop):Prop :=
 ∃ n ex T' hs',(evJ E n).code rd sz c T hs=some (ex,T',hs')/\Q ex T' hs'
def Ex.then(K:PT V->HS->Prop)(Q:Ex->PT V->HS->Prop):Ex->PT V->HS->Prop
 |.normal,T,hs=>K T hs
 |.ret,T,hs=>Q .ret T hs
 |.exit i,T,hs=>Q (.exit i) T hs
def Ex.inBlock(id:Nat)(Q:Ex->PT V->HS->Prop):Ex->PT V->HS->Prop
 |.normal,T,hs=>Q .normal T hs
 |.ret,T,hs=>Q .ret T hs
 |.exit i,T,hs=>if i=id then Q .normal T hs else Q (.exit i) T hs
def Ro(E:Env)(sz:Nat)(ops l:List Oper)(id:Nat)(T:PT V)(hs:HS)(Q:PT V->HS->Prop):Prop:=∃ n T' hs',zbA E (evJ E n) sz ops l id T hs=some (T',hs')/\Q T' hs'
theorem zrv{id:Nat}{ops:List Oper}(h:Ro E sz ops ops hs.n T { H:=hs.H,n:=hs.n+ops.length,log:=hs.log } fun T hs=>Q .normal T hs):Jc E rd sz (.region id ops.toArray false) T hs Q:=by
 obtain⟨n,T1,hs1,h1,h2⟩:=h;refine⟨n+1,.normal,T1,hs1,?_,h2⟩;show (ob (bi false _ (zbA E (evJ E n) sz ops ops hs.n T { H:=hs.H,n:=hs.n+zG ops,log:=hs.log })) fun r=>some (Ex.normal,r.1,r.2))=_;rw[zD,zz,h1];rfl
variable {ops l:List Oper}{id:Nat}{R:PT V->HS->Prop}
theorem z7u:Ro E sz ops [] id T hs R=R T hs:=propext ⟨fun ⟨_,_,_,h1,h2⟩=>by cases h1;exact h2,fun h=>⟨0,T,hs,rfl,h⟩⟩
theorem z0N{o:Oper}(h:∃ n r,zcv E (evJ E n) sz ops o id T hs=some r/\Ro E sz ops l (id+1) r.1 r.2 R):Ro E sz ops (o::l) id T hs R:=by
 obtain⟨n,⟨T1,hs1⟩,h1,m,T2,hs2,h2,h3⟩:=h;refine⟨max n m,T2,hs2,?_,h3⟩;show (ob (zcv E (evJ E (max n m)) sz ops o id T hs) fun r=>zbA E (evJ E (max n m)) sz ops l (id+1) r.1 r.2)=_;rw[zj1 (zyk E (Nat.le_max_left n m)) h1,zA];exact zhv (zyk E (Nat.le_max_right n m)) h2
def put(sz:Nat)(T:PT V)(d:Option Tmp)(v:V)(K:PT V->Prop):Prop :=
 match d with
 |none=>K T
 |some d=>d<sz/\K (T.set d v)
theorem zkA{d:Option Tmp}{v:V}{K:PT V->Prop}(h:put sz T d v K):∃ T',zkn sz T d v=some T'/\K T':=by
 cases d with
 |none=>exact⟨T,rfl,h⟩
 |some d=>exact⟨T.set d v,by show gd (Nat.blt d sz) _=_;rw[blt_true.2 h.1];rfl,h.2⟩
end
end Go.J
/- Code without what the evaluator does not look at;symbolic runs of it. -/
namespace Go.J
structure SOp where
 d:Option Tmp
 op:Op
 g:Option (Tmp×Bool)
structure SD where
 d:Option Tmp
 op:Op
 g:Option (Tmp×Bool)
 lk:List Nat
inductive SC where
 |draw (l:List SD) (bs:List Nat)
 |skip|ret
 |exit (id:Nat)
 |reg (l:List SOp)
 |seq (a b:SC)
 |cond (q:Operand) (a b:SC)
 |block (id:Nat) (a:SC)
 |loop (a:SC)
 |range (g:Operand) (ps:Array Tmp) (a b:SC)
def zlv (ops:List Oper):Option (Nat×Bool)->Option (Option (Tmp×Bool))
 |none=>some none
 | some (j,w)=>match ops[j]? with
   | some p=>match p.dst with
     |some d=>some (some (d,w))
     |none=>none
   |none=>none
def stripL (ops:List Oper):List Oper->Option (List SOp)
 | []=>some []
 | o::l=>match zlv ops o.guard,stripL ops l with
   |some g,some r=>some (⟨o.dst,o.op,g⟩::r)
   |_,_=>none
def zfK (ops:List Oper):List Oper->Option (List SD)
 | []=>some []
 | o::l=>match zlv ops o.guard,zfK ops l with
   |some g,some r=>some (⟨o.dst,o.op,g,looks ops o⟩::r)
   |_,_=>none
def zq:Code->Option SC
 | .region _ ops true=>match zfK ops.toList ops.toList,zjS ops.toList with
   |some l,some bs=>some (.draw l bs)
   |_,_=>none
 |.skip=>some .skip
 |.ret=>some .ret
 |.exit i=>some (.exit i)
 | .region _ ops false=>match stripL ops.toList ops.toList with
   |some l=>some (.reg l)
   |none=>none
 | .seq a b=>match zq a,zq b with
   |some a,some b=>some (.seq a b)
   |_,_=>none
 | .cond q a b=>match zq a,zq b with
   |some a,some b=>some (.cond q a b)
   |_,_=>none
 | .block i a=>match zq a with
   |some a=>some (.block i a)
   |none=>none
 | .loop a=>match zq a with
   |some a=>some (.loop a)
   |none=>none
 | .rangeFunc g ps a b=>match zq a,zq b with
   |some a,some b=>some (.range g ps a b)
   |_,_=>none
 |_=>none
section
variable {E:Env}{rd:Bool}{sz:Nat}{T:PT V}{hs:HS}{Q:Ex->PT V->HS->Prop}
def V.guard? (v:V)(w:Bool):Option Bool:=match v with
 |.bool b=>some b
 |.tuple []=>some (!w)
 |_=>none
def V.wantB(v:V)(w:Bool):Option Bool:=match v with
 |.bool b=>some (zcP b w)
 |.tuple []=>some false
 |_=>none
theorem V.guard?_want {v:V}{w q:Bool}(h:v.guard? w=some q):v.wantB w=some (zcP q w):=by
 unfold V.guard? at h;split at h
 . cases h;rfl
 . cases h;cases w<;>rfl
 . cases h
def wpO (E:Env) (id:Nat) (T:PT V) (hs:HS) (op:Op) (K:V->HS->Prop):Prop :=
 match op with
 | .call c=>match c.callee with
   |.builtin b=>(zu op≠0->hs.H.get id=none)/\ok (zay T c.args.toList) fun vs=>ok (zbd E.P hs id b c.argTypes.toList vs) fun r=>K r.1 r.2
   |.value x=>hs.H.get id=none/\ok (zi T x) fun v=>ok (funcOf v) fun p=>ok (zay T c.args.toList) fun vs=>ok (E.con p.1 (zbh vs p.2) hs) fun r=>K r.1 r.2
   |.invoke _ _=>False
 |op=>(zu op≠0->hs.H.get id=none)/\ok (opJ E.P false T hs id (opR op)) fun r=>K r.1 r.2
def wpS(E:Env)(id:Nat)(T:PT V)(hs:HS)(s:SOp)(K:V->HS->Prop):Prop :=
 match s.g with
 |none=>wpO E id T hs s.op K
 |some (t,w)=>ok (T.get t) fun v=>ok (v.guard? w) fun q=>if q=w then wpO E id T hs s.op K else K undefV hs
def Rs(E:Env)(sz:Nat):List SOp->Nat->PT V->HS->(PT V->HS->Prop)->Prop
 | [],_,T,hs,R=>R T hs
 |s::l,id,T,hs,R=>wpS E id T hs s fun v hs'=>put sz T s.d v fun T1=>Rs E sz l (id+1) T1 hs' R
theorem zrM {id:Nat} {op:Op} {K:V->HS->Prop} (h:wpO E id T hs op K):(zu op≠0->hs.H.get id=none) /\
 ((zbr op=none/\ok (opJ E.P false T hs id (opR op)) fun r=>K r.1 r.2)\/(∃ c,zbr op=some c/\ok (zay T c.args.toList) fun vs =>
   (∃ b,c.callee=.builtin b/\ok (zbd E.P hs id b c.argTypes.toList vs) fun r=>K r.1 r.2)\/∃ x f caps,c.callee=.value x/\zi T x=some (.func f caps)/\ok (E.con f (zbh vs caps) hs) fun r=>K r.1 r.2)):=by
 unfold wpO at h;split at h
 . rename_i c;split at h
   . rename_i b hb;exact⟨h.1,.inr ⟨c,rfl,zzl h.2 fun vs hv=>.inl ⟨b,hb,hv⟩⟩⟩
   . rename_i x hx;obtain⟨h1,v,hv,p,hp,vs,hvs,h2⟩:=h;obtain⟨f,caps⟩:=p
     have e:v=.func f caps:=by
      unfold funcOf at hp;split at hp
      . cases hp;rfl
      . cases hp
     subst e;exact⟨fun _=>h1,.inr ⟨c,rfl,vs,hvs,.inr ⟨x,f,caps,hx,hv,h2⟩⟩⟩
   . exact h.elim
 . rename_i hne;refine⟨h.1,.inl ⟨?_,h.2⟩⟩;cases op<;>first|rfl|exact absurd rfl (hne _)
theorem zyS {ops:List Oper} {id:Nat} {o:Oper} {n:Nat} {K:PT V->HS->Prop} {q:Bool} (hw:zdo ops T o=some q)
 (h:if q=true then wpO E id T hs o.op (fun v hs'=>put sz T o.dst v fun T1=>K T1 hs')else put sz T o.dst undefV fun T1=>K T1 hs) :
 ∃ r,zcv E (evJ E n) sz ops o id T hs=some r/\K r.1 r.2:=by
 cases q with
 | false =>
   rw[if_neg (by simp)]at h;obtain⟨T1,h4,h5⟩:=zkA h;refine⟨(T1,hs),?_,h5⟩;show (ob (zdo ops T o) fun w=>bi w _ _)=_;rw[hw,zA,zD,h4];rfl
 | true =>
   rw[if_pos rfl]at h;obtain⟨h1,h2⟩:=zrM h
   have hv:bi (Nat.beq (zu o.op) 0) true (zaP hs id)=true:=by
    rw[zaf];split
    . rfl
    . rename_i hne;exact vacant_eq.2 (h1 fun e=>hne (beq_true.2 e))
   have fin:∀ r:V×HS,stepJ E (evJ E n) false T hs id o=some r->(put sz T o.dst r.1 fun T1=>K T1 r.2)->∃ r,zcv E (evJ E n) sz ops o id T hs=some r/\K r.1 r.2:=by
    intro r hst hp;obtain⟨T1,h4,h5⟩:=zkA hp;refine⟨(T1,r.2),?_,h5⟩;show (ob (zdo ops T o) fun w=>bi w _ _)=_;rw[hw,zA,zU,hv,zb3,hst,zA,h4];rfl
   rcases h2 with⟨hc,r,h2,h3⟩|⟨c,hc,vs,hvs,h2⟩
   . exact fin r (by unfold stepJ;rw[hc];exact h2) h3
   . rcases h2 with⟨b,hb,r,h2,h3⟩|⟨x,f,caps,hx,hxv,r,h2,h3⟩
     . refine fin r ?_ h3;unfold stepJ;rw[hc];show (ob (zay T c.args.toList) fun vs=>_)=_;rw[hvs,zA,hb];exact h2
     . refine fin r ?_ h3;unfold stepJ;rw[hc];show (ob (zay T c.args.toList) fun vs=>_)=_;rw[hvs,zA,hx];show (ob (zi T x) fun v=>zhq E (evJ E n) v vs hs)=_;rw[hxv,zA];show zeL E (evJ E n) f (zbh vs caps) hs=some r;unfold zeL;rw[h2,zah]
theorem zDG {ops:List Oper}:∀ {l:List Oper} {s:List SOp} {id:Nat} {T:PT V} {hs:HS} {R:PT V->HS->Prop},stripL ops l=some s->Rs E sz s id T hs R->Ro E sz ops l id T hs R:=by
 intro l
 induction l with
 | nil =>
   intro s id T hs R h hr;cases h;rw[z7u];exact hr
 | cons o l ih =>
   intro s id T hs R h hr;unfold stripL at h;split at h
   . rename_i g r hg hl;cases h;have hr':wpS E id T hs ⟨o.dst,o.op,g⟩ fun v hs'=>put sz T o.dst v fun T1=>Rs E sz r (id+1) T1 hs' R:=hr
     unfold wpS at hr'
     have hst:∃ q,zdo ops T o=some q/\(if q=true then wpO E id T hs o.op (fun v hs'=>put sz T o.dst v fun T1=>Rs E sz r (id+1) T1 hs' R)else put sz T o.dst undefV fun T1=>Rs E sz r (id+1) T1 hs R):=by
      unfold zlv at hg;split at hg
      . rename_i hgn;cases hg;refine⟨true,?_,by rw[if_pos rfl];exact hr'⟩;unfold zdo;rw[hgn];rfl
      . rename_i j w hgn;split at hg
        . rename_i p hp;split at hg
          . rename_i d hd;cases hg;obtain⟨v,hv,q,hq,h2⟩:=hr';refine⟨zcP q w,?_,?_⟩
            . unfold zdo;rw[hgn,zah];show (ob (zeh ops j) fun p=>_)=_;rw[zbC,hp,zA,hd,zA,hv,zA];exact V.guard?_want hq
            . by_cases e:q=w
              . rw[if_pos e]at h2;rw[if_pos (by rw[e];cases w<;>rfl)];exact h2
              . rw[if_neg e]at h2;rw[if_neg (by revert e;cases w<;>cases q<;>simp[zcP,bi,nt])];exact h2
          . cases hg
        . cases hg
     obtain⟨q,hw,h3⟩:=hst;obtain⟨r1,h4,h5⟩:=zyS (n:=0) hw h3;exact z0N ⟨0,r1,h4,ih hl h5⟩
   . cases h
def Js(E:Env)(rd:Bool)(sz:Nat)(s:SC)(T:PT V)(hs:HS)(Q:Ex->PT V->HS->Prop):Prop:=∀ c,zq c=some s->Jc E rd sz c T hs Q
theorem zaX{c:Code}{s:SC}(h:zq c=some s):match s with
 |.draw l bs=>∃ id ops,c=.region id ops true/\zfK ops.toList ops.toList=some l/\zjS ops.toList=some bs
 |.skip=>c=.skip
 |.ret=>c=.ret
 |.exit i=>c=.exit i
 |.reg l=>∃ id ops,c=.region id ops false/\stripL ops.toList ops.toList=some l
 |.seq a b=>∃ x y,c=.seq x y/\zq x=some a/\zq y=some b
 |.cond q a b=>∃ x y,c=.cond q x y/\zq x=some a/\zq y=some b
 |.block i a=>∃ x,c=.block i x/\zq x=some a
 |.loop a=>∃ x,c=.loop x/\zq x=some a
 |.range g ps a b=>∃ x y,c=.rangeFunc g ps x y/\zq x=some a/\zq y=some b:=by
 cases c with
 |skip=>cases h;rfl
 |ret=>cases h;rfl
 |exit i=>cases h;rfl
 | region id ops draw =>
   cases draw with
   | true =>
     unfold zq at h;split at h
     . rename_i l bs hl hb;cases h;exact⟨id,ops,rfl,hl,hb⟩
     . cases h
   | false =>
     unfold zq at h;split at h
     . rename_i l hl;cases h;exact⟨id,ops,rfl,hl⟩
     . cases h
 | seq x y =>
   unfold zq at h;split at h
   . rename_i a b ha hb;cases h;exact⟨x,y,rfl,ha,hb⟩
   . cases h
 | cond q x y =>
   unfold zq at h;split at h
   . rename_i a b ha hb;cases h;exact⟨x,y,rfl,ha,hb⟩
   . cases h
 | block i x =>
   unfold zq at h;split at h
   . rename_i a ha;cases h;exact⟨x,rfl,ha⟩
   . cases h
 | rangeFunc g ps x y =>
   unfold zq at h;split at h
   . rename_i a b ha hb;cases h;exact⟨x,y,rfl,ha,hb⟩
   . cases h
 | loop x =>
   unfold zq at h;split at h
   . rename_i a ha;cases h;exact⟨x,rfl,ha⟩
   . cases h
 |_=>cases h
theorem z7B{l:List SOp}(h:Rs E sz l hs.n T { H:=hs.H,n:=hs.n+l.length,log:=hs.log } fun T hs=>Q .normal T hs):Js E rd sz (.reg l) T hs Q:=fun c hc=>by
 obtain⟨id,ops,rfl,hl⟩:=zaX hc
 have hlen:∀ {m:List Oper} {s:List SOp},stripL ops.toList m=some s->s.length=m.length:=by
  intro m
  induction m with
  |nil=>intro s h;cases h;rfl
  | cons o m ih =>
    intro s h;unfold stripL at h;split at h
    . rename_i g r hg hr;cases h;simp[ih hr]
    . cases h
 rw[hlen hl]at h;have:=zrv (id:=id) (rd:=rd) (Q:=Q) (zDG hl h);simpa using this
end
section
variable {E:Env}{rd:Bool}{sz:Nat}{T:PT V}{hs:HS}{Q:Ex->PT V->HS->Prop}
def z3x (E:Env) (id:Nat) (T:PT V) (hs:HS) (op:Op) (K:V->HS->List Nat×List Nat->Prop):Prop :=
 match zu op with
 | 0 => match op with
   | .call c=>match c.callee with
     |.builtin b=>ok (zay T c.args.toList) fun vs=>ok (zbd E.P { H:=zW hs.H (readsOf T op),n:=0,log:=[] } id b c.argTypes.toList vs) fun r=>K r.1 hs (readsOf T op,[])
     |_=>False
   |op=>ok (opJ E.P true T { H:=zW hs.H (readsOf T op),n:=0,log:=[] } id (opR op)) fun r=>K r.1 hs (readsOf T op,[])
 | 1=>hs.H.get id=none/\ok (opJ E.P true T { H:=.leaf,n:=0,log:=[] } id (opR op)) fun r=>ok (r.2.H.get id) fun o'=>o'.fz=false/\K r.1 (hs.put id o') ([id],[])
 | _ => hs.H.get id=none/\(match op with
   | .call c=>match c.callee with
     |.builtin b=>ok (zay T c.args.toList) fun vs=>ok (zbd E.P { H:=hs.H,n:=hs.n,log:=[] } id b c.argTypes.toList vs) fun r=>K r.1 { H:=r.2.H,n:=r.2.n,log:=zbh r.2.log hs.log } ([],r.2.log)
     |.value x=>ok (zi T x) fun v=>ok (funcOf v) fun p=>ok (zay T c.args.toList) fun vs=>ok (E.con p.1 (zbh vs p.2) { H:=hs.H,n:=hs.n,log:=[] }) fun r=>K r.1 { H:=r.2.H,n:=r.2.n,log:=zbh r.2.log hs.log } ([],r.2.log)
     |.invoke _ _=>False
   |op=>ok (opJ E.P true T { H:=hs.H,n:=hs.n,log:=[] } id (opR op)) fun r=>K r.1 { H:=r.2.H,n:=r.2.n,log:=zbh r.2.log hs.log } ([],r.2.log))
def wpD(E:Env)(id:Nat)(T:PT V)(hs:HS)(op:Op)(K:V->HS->List Nat×List Nat->Prop):Prop :=
 match op with
 |.store t a x=>hs.H.get id=none/\ok (za2 E.P T { H:=zW hs.H (zbx T hs (.store t a x)),n:=0,log:=[] } t a x) fun r=>K r.1 { H:=zjc hs.H r.2.H (zbx T hs (.store t a x)),n:=hs.n,log:=zbh r.2.log hs.log } (zbx T hs (.store t a x),r.2.log)
 |op=>z3x E id T hs op K
def zyA(E:Env)(id:Nat)(T:PT V)(hs:HS)(s:SD)(K:V->HS->List Nat×List Nat->Prop):Prop :=
 match s.g with
 |none=>wpD E id T hs s.op K
 |some (t,w)=>ok (T.get t) fun v=>ok (v.guard? w) fun q=>if q=w then wpD E id T hs s.op K else K undefV hs ([],[])
def Rd(E:Env)(sz:Nat):List SD->Nat->PT V->HS->List (List Nat×List Nat)->(PT V->HS->List (List Nat×List Nat)->Prop)->Prop
 | [],_,T,hs,acc,R=>R T hs acc
 |s::l,id,T,hs,acc,R=>zyA E id (zW T s.lk) hs s fun v hs' rw=>put sz T s.d v fun T1=>Rd E sz l (id+1) T1 hs' (zbh acc [rw]) R
theorem zrN {id:Nat} {o:Oper} {n:Nat} {K:V->HS->List Nat×List Nat->Prop} (h:z3x E id T hs o.op K):∃ r,zcO E (evJ E n) o id T hs=some r/\K r.1 r.2.1 r.2.2:=by
 unfold z3x at h
 have hcall:∀ {hs0:HS} {c:Call} {b:Builtin} {vs:List V} {r:V×HS},zbr o.op=some c->c.callee=.builtin b->zay T c.args.toList=some vs->zbd E.P hs0 id b c.argTypes.toList vs=some r->stepJ E (evJ E n) true T hs0 id o=some r:=by
  intro hs0 c b vs r h1 h2 h3 h4;unfold stepJ;rw[h1];show (ob (zay T c.args.toList) fun vs=>_)=_;rw[h3,zA,h2];exact h4
 have hop:∀ {hs0:HS} {r:V×HS},zbr o.op=none->opJ E.P true T hs0 id (opR o.op)=some r->stepJ E (evJ E n) true T hs0 id o=some r:=by
  intro hs0 r h1 h2;unfold stepJ;rw[h1];exact h2
 have hnone:∀ {op:Op},(∀ c,op≠.call c)->zbr op=none:=by
  intro op h;cases op<;>first|rfl|exact absurd rfl (h _)
 split at h
 . rename_i hc
   have key:∀ r:V×HS,stepJ E (evJ E n) true T { H:=zW hs.H (readsOf T o.op),n:=0,log:=[] } id o=some r->zcO E (evJ E n) o id T hs=some (r.1,hs,readsOf T o.op,[]):=by
    intro r hr;unfold zcO;rw[hc];show (ob (stepJ E (evJ E n) true T { H:=zW hs.H (readsOf T o.op),n:=0,log:=[] } id o) fun r=>some (r.1,hs,readsOf T o.op,[]))=_;rw[hr];rfl
   split at h
   . rename_i c hcc;split at h
     . rename_i b hb;obtain⟨vs,hvs,r,hr,hk⟩:=h;have hco:zbr o.op=some c:=by rw[hcc];rfl
       exact⟨_,key r (hcall hco hb hvs hr),hk⟩
     . exact h.elim
   . rename_i hne;obtain⟨r,hr,hk⟩:=h;exact⟨_,key r (hop (hnone hne) hr),hk⟩
 . rename_i hc;obtain⟨h0,r,hr,o',ho,hz,hk⟩:=h;refine⟨(r.1,hs.put id o',[id],[]),?_,hk⟩;unfold zcO;rw[hc];show (gd (zaP hs id) (ob (stepJ E (evJ E n) true T { H:=.leaf,n:=0,log:=[] } id o) fun r=>ob (r.2.H.get id) fun o'=>gd (nt o'.fz) (some (r.1,hs.put id o',[id],[]))))=_;rw[vacant_eq.2 h0,zb3,hop (zgM hc) hr,zA,ho,zA,hz];rfl
 . rename_i hc0 hc1;obtain⟨h0,h⟩:=h
   have hc:zu o.op=2:=by
    rcases zh2 o.op with h|h|h
    . exact absurd h hc0
    . exact absurd h hc1
    . exact h
   have key:∀ r:V×HS,stepJ E (evJ E n) true T { H:=hs.H,n:=hs.n,log:=[] } id o=some r->zcO E (evJ E n) o id T hs=some (r.1,{ H:=r.2.H,n:=r.2.n,log:=zbh r.2.log hs.log },[],r.2.log):=by
    intro r hr;unfold zcO;rw[hc];show (gd (zaP hs id) (ob (stepJ E (evJ E n) true T { H:=hs.H,n:=hs.n,log:=[] } id o) fun r=>some (r.1,({ H:=r.2.H,n:=r.2.n,log:=zbh r.2.log hs.log }:HS),([]:List Nat),r.2.log)))=_;rw[vacant_eq.2 h0,zb3,hr];rfl
   split at h
   . rename_i c hcc;have hco:zbr o.op=some c:=by rw[hcc];rfl
     split at h
     . rename_i b hb;obtain⟨vs,hvs,r,hr,hk⟩:=h;exact⟨_,key r (hcall hco hb hvs hr),hk⟩
     . rename_i x hx;obtain⟨v,hv,p,hp,vs,hvs,r,hr,hk⟩:=h;obtain⟨f,caps⟩:=p
       have e:v=.func f caps:=by
        unfold funcOf at hp;split at hp
        . cases hp;rfl
        . cases hp
       subst e;refine⟨_,key r ?_,hk⟩;unfold stepJ;rw[hco];show (ob (zay T c.args.toList) fun vs=>_)=_;rw[hvs,zA,hx];show (ob (zi T x) fun v=>zhq E (evJ E n) v vs _)=_;rw[hv,zA];show zeL E (evJ E n) f (zbh vs caps) _=some r;unfold zeL;rw[hr,zah]
     . exact h.elim
   . rename_i hne;obtain⟨r,hr,hk⟩:=h;exact⟨_,key r (hop (hnone hne) hr),hk⟩
theorem znp{id:Nat}{o:Oper}{n:Nat}{K:V->HS->List Nat×List Nat->Prop}(h:wpD E id T hs o.op K):∃ r,zcA E (evJ E n) o id T hs=some r/\K r.1 r.2.1 r.2.2:=by
 unfold wpD at h;unfold zcA;split at h
 . rename_i t a x hop;obtain⟨h0,r,hr,hk⟩:=h;have hs0:zav o.op=true:=by rw[hop];rfl
   rw[hs0,zU];unfold zhL;rw[vacant_eq.2 h0,zb3,hop,zco hop,hr,zA];exact⟨_,rfl,hk⟩
 . rename_i hne
   have hs0:zav o.op=false:=by
    unfold zav;split
    . rename_i t a x e;exact absurd e (hne t a x)
    . rfl
   rw[hs0,zD];exact zrN h
theorem zDI {ops:List Oper} {n:Nat}:∀ {l:List Oper} {s:List SD} {id:Nat} {T:PT V} {hs:HS} {acc:List (List Nat×List Nat)} {R:PT V->HS->List (List Nat×List Nat)->Prop},zfK ops l=some s->Rd E sz s id T hs acc R ->
 ∃ T' hs' acc',zbT E (evJ E n) sz ops l id T hs acc=some ((T',hs'),acc')/\R T' hs' acc':=by
 intro l
 induction l with
 | nil =>
   intro s id T hs acc R h hr;cases h;exact⟨T,hs,acc,rfl,hr⟩
 | cons o l ih =>
   intro s id T hs acc R h hr;unfold zfK at h;split at h
   . rename_i g r hg hl;cases h;have hr':zyA E id (zW T (looks ops o)) hs ⟨o.dst,o.op,g,looks ops o⟩ fun v hs' rw=>put sz T o.dst v fun T1=>Rd E sz r (id+1) T1 hs' (zbh acc [rw]) R:=hr
     unfold zyA at hr'
     have hst:∃ q,zal E (evJ E n) ops o id (zW T (looks ops o)) hs=some q/\put sz T o.dst q.1 fun T1=>Rd E sz r (id+1) T1 q.2.1 (zbh acc [q.2.2]) R:=by
      unfold zlv at hg;split at hg
      . rename_i hgn;cases hg;obtain⟨q,h1,h2⟩:=znp (n:=n) hr';refine⟨q,?_,h2⟩;have hw:zdo ops (zW T (looks ops o)) o=some true:=by unfold zdo;rw[hgn];rfl
        unfold zal;rw[hw,zA,zU];exact h1
      . rename_i j w hgn;split at hg
        . rename_i p hp;split at hg
          . rename_i d hd;cases hg;obtain⟨v,hv,q,hq,h2⟩:=hr'
            have hw:zdo ops (zW T (looks ops o)) o=some (zcP q w):=by
             unfold zdo;rw[hgn,zah];show (ob (zeh ops j) fun p=>_)=_;rw[zbC,hp,zA,hd,zA,hv,zA];exact V.guard?_want hq
            by_cases e:q=w
            . rw[if_pos e]at h2;obtain⟨q1,h3,h4⟩:=znp (n:=n) h2;refine⟨q1,?_,h4⟩;unfold zal;rw[hw,zA,show zcP q w=true by rw[e];cases w<;>rfl,zU];exact h3
            . rw[if_neg e]at h2;refine⟨(undefV,hs,[],[]),?_,h2⟩;unfold zal;rw[hw,zA,show zcP q w=false by revert e;cases w<;>cases q<;>simp[zcP,bi,nt],zD]
          . cases hg
        . cases hg
     obtain⟨q,h1,h2⟩:=hst;obtain⟨T1,h3,h4⟩:=zkA h2;obtain⟨T',hs',acc',h5,h6⟩:=ih hl h4;refine⟨T',hs',acc',?_,h6⟩;show (ob (zal E (evJ E n) ops o id (zW T (looks ops o)) hs) fun r=>ob (zkn sz T o.dst r.1) fun T'=>zbT E (evJ E n) sz ops l (id+1) T' r.2.1 (zbh acc [r.2.2]))=_;rw[h1,zA,h3,zA];exact h5
   . cases h
theorem z0V{l:List SD}{bs:List Nat}(h:Rd E sz l hs.n T { H:=hs.H,n:=hs.n+l.length,log:=hs.log } [] fun T hs acc=>zbN acc acc 0 bs=true/\Q .normal T hs):Js E rd sz (.draw l bs) T hs Q:=fun c hc=>by
 obtain⟨id,ops,rfl,hl,hb⟩:=zaX hc
 have hlen:∀ {m:List Oper} {s:List SD},zfK ops.toList m=some s->s.length=m.length:=by
  intro m
  induction m with
  |nil=>intro s h;cases h;rfl
  | cons o m ih =>
    intro s h;unfold zfK at h;split at h
    . rename_i g r hg hr;cases h;simp[ih hr]
    . cases h
 rw[hlen hl]at h;obtain⟨T',hs',acc',h1,h2,h3⟩:=zDI (n:=0) hl h;refine⟨1,.normal,T',hs',?_,h3⟩;show (ob (bi true (zjT E (evJ E 0) sz ops.toList T hs) _) fun r=>some (Ex.normal,r.1,r.2))=_;rw[zU]
 have hd:zjT E (evJ E 0) sz ops.toList T hs=some (T',hs'):=by
  show (ob (zjS ops.toList) fun bs=>ob (zbT E (evJ E 0) sz ops.toList ops.toList hs.n T { H:=hs.H,n:=hs.n+zG ops.toList,log:=hs.log } []) fun r=>gd (zbN r.2 r.2 0 bs) (some r.1))=_;rw[hb,zA,zz,h1,zA,h2,zb3]
 rw[hd];rfl
end
def Leaves(P:Program)(fn:Func)(K:V->HS->Prop)(ex:Ex)(T:PT V)(hs:HS):Prop:=(∀ i,ex≠.exit i)/\ok (zni P T hs fn.results.toList) fun l=>K (zdT l) hs
def Gives(r:V)(v:V)(hs:HS):Prop:=still hs v=some r
theorem zhU{P:Program}{fn:Func}{K:V->HS->Prop}{T:PT V}{hs:HS}:Leaves P fn K .ret T hs=ok (zni P T hs fn.results.toList) fun l=>K (zdT l) hs :=
 propext ⟨fun h=>h.2,fun h=>⟨fun i h=>(by cases h),h⟩⟩
theorem zeQ{P:Program}{fn:Func}{K:V->HS->Prop}{T:PT V}{hs:HS}:Leaves P fn K .normal T hs=ok (zni P T hs fn.results.toList) fun l=>K (zdT l) hs :=
 propext ⟨fun h=>h.2,fun h=>⟨fun i h=>(by cases h),h⟩⟩
end Go.J
