import Derived.Test.YtocdkgjpdnamlaaGreatJE
set_option linter.all false
noncomputable section
/- More depth changes no result. -/
namespace Go.J
structure AB(a b:Ev):Prop where
 code:∀ {rd sz c T hs r},a.code rd sz c T hs=some r->b.code rd sz c T hs=some r
 call:∀ {f vs hs r},a.call f vs hs=some r->b.call f vs hs=some r
section
variable {E:Env}{a b:Ev}{T:PT V}{hs:HS}
theorem zak (h:AB a b) {f:FuncId} {vs:List V} {r:V×HS} (hr:uu E a f vs hs=some r):uu E b f vs hs=some r:=by
 unfold uu at hr ⊢
 cases hp:E.Rl f with
 | zero =>
   rw[hp]at hr;replace hr:bi (aR vs) (j5 a f vs hs) (a.call f vs hs)=some r:=hr;show bi (aR vs) (j5 b f vs hs) (b.call f vs hs)=some r;rw[dX]at hr ⊢;split at hr
   . rename_i hb;rw[if_pos hb];simp only[j5,af]at hr ⊢;obtain⟨q,h1,h2⟩:=hr;exact⟨q,h.call h1,h2⟩
   . rename_i hb;rw[if_neg hb];exact h.call hr
 | succ m =>
   rw[hp]at hr
   cases m with
   |zero=>exact h.call hr
   | succ m =>
    cases m with
    |succ m =>
     replace hr:o8 a f vs hs=some r:=hr;show o8 b f vs hs=some r;simp only[o8,af]at hr ⊢;obtain⟨q,h1,h2⟩:=hr;exact⟨q,h.call h1,h2⟩
    |zero =>
     replace hr:kF (a.call f vs hs) (fun args'=>iB a f args' hs) (fD hs vs)=some r:=hr;show kF (b.call f vs hs) (fun args'=>iB b f args' hs) (fD hs vs)=some r
     cases hs1:fD hs vs with
     |none=>rw[hs1]at hr;exact h.call hr
     | some args' =>
       rw[hs1]at hr;replace hr:iB a f args' hs=some r:=hr;show iB b f args' hs=some r;simp only[iB,af,aD]at hr ⊢;obtain⟨q,h1,h2⟩:=hr;exact⟨q,h.call h1,h2⟩
theorem zk1(h:AB a b){f:FuncId}{vs:List V}{r:V×HS}(hr:uY E a f vs hs=some r):uY E b f vs hs=some r:=by
 unfold uY at hr ⊢
 cases hq:E.dS f vs hs with
 |none=>rw[hq]at hr;exact zak h hr
 |some q=>rw[hq]at hr;exact hr
theorem Y9(h:AB a b){id:Nat}{vs:List V}{r:V×HS}(hr:oC a id vs hs=some r):oC b id vs hs=some r:=by
 simp only[oC,af,aD]at hr ⊢;obtain⟨o,h1,l,h2,h3,T,h4,q,h5,h6,o1,h7,l1,h8,h9,p,h10,h11⟩:=hr;exact⟨o,h1,l,h2,h3,T,h4,q,h.code h5,h6,o1,h7,l1,h8,h9,p,h.code h10,h11⟩
theorem wS(h:AB a b){dr:Bool}{id:Nat}{o:Oper}{r:V×HS}(hr:stepJ E a dr T hs id o=some r):stepJ E b dr T hs id o=some r:=by
 unfold stepJ at hr ⊢
 cases hc:jE o.op with
 |none=>rw[hc]at hr;exact hr
 | some c =>
   rw[hc]at hr;replace hr:lM E a T hs id c=some r:=hr;show lM E b T hs id c=some r;simp only[lM,af]at hr ⊢;obtain⟨vs,h1,h2⟩:=hr;refine⟨vs,h1,?_⟩
   cases Pf:c.callee with
   |builtin bb=>rw[Pf]at h2;exact h2
   | value x =>
     rw[Pf]at h2;simp only[af]at h2 ⊢;obtain⟨v,h3,h4⟩:=h2;refine⟨v,h3,?_⟩;unfold zQ at h4 ⊢
     grind [zk1,id,Y9]
   |invoke x n=>rw[Pf]at h2;cases h2
theorem Ke(h:AB a b){sz id:Nat}{ops:List Oper}{o:Oper}{r:PT V×HS}(hr:lI E a sz ops o id T hs=some r):lI E b sz ops o id T hs=some r:=by
 simp only[lI,af]at hr ⊢;obtain⟨w,h1,h2⟩:=hr;refine⟨w,h1,?_⟩
 grind [dX,aD,af,wS]
theorem Ga(h:AB a b){sz:Nat}{ops:List Oper}:∀ {l:List Oper} {id:Nat} {T:PT V} {hs:HS} {r:PT V×HS},kT E a sz ops l id T hs=some r->kT E b sz ops l id T hs=some r:=by
 intro l
 induction l with
 |nil=>intro id T hs r hr;exact hr
 | cons o l ih =>
   intro id T hs r hr;replace hr:(ob (lI E a sz ops o id T hs) fun r=>kT E a sz ops l (id+1) r.1 r.2)=some r:=hr;show (ob (lI E b sz ops o id T hs) fun r=>kT E b sz ops l (id+1) r.1 r.2)=some r
   grind [af,Ke]
theorem Z6(h:AB a b){o:Oper}{id:Nat}{r:V×HS×List Nat×List Nat}(hr:oM E a o id T hs=some r):oM E b o id T hs=some r:=by
 unfold oM at hr ⊢
 cases hc:bE o.op with
 | zero =>
   rw[hc]at hr;replace hr:(ob (stepJ E a true T { H:=dD hs.H (readsOf T o.op),n:=0,log:=[] } id o) fun r=>some (r.1,hs,readsOf T o.op,[]))=some r:=hr;show (ob (stepJ E b true T { H:=dD hs.H (readsOf T o.op),n:=0,log:=[] } id o) fun r=>some (r.1,hs,readsOf T o.op,[]))=some r
   grind [af,wS]
 | succ m =>
   rw[hc]at hr
   cases m with
   | zero =>
     replace hr:(gd (cB hs id) (ob (stepJ E a true T { H:=.leaf,n:=0,log:=[] } id o) fun r=>ob (r.2.H.get id) fun o'=>gd (nt o'.fz) (some (r.1,hs.put id o',[id],[]))))=some r:=hr;show (gd (cB hs id) (ob (stepJ E b true T { H:=.leaf,n:=0,log:=[] } id o) fun r=>ob (r.2.H.get id) fun o'=>gd (nt o'.fz) (some (r.1,hs.put id o',[id],[]))))=some r
     grind [af,aD,wS]
   | succ m =>
     replace hr:(gd (cB hs id) (ob (stepJ E a true T { H:=hs.H,n:=hs.n,log:=[] } id o) fun r=>some (r.1,{ H:=r.2.H,n:=r.2.n,log:=fC r.2.log hs.log },[],r.2.log)))=some r:=hr;show (gd (cB hs id) (ob (stepJ E b true T { H:=hs.H,n:=hs.n,log:=[] } id o) fun r=>some (r.1,{ H:=r.2.H,n:=r.2.n,log:=fC r.2.log hs.log },[],r.2.log)))=some r
     grind [af,aD,wS]
theorem Sc(h:AB a b){o:Oper}{id:Nat}{r:V×HS×List Nat×List Nat}(hr:o6 E a o id T hs=some r):o6 E b o id T hs=some r:=by
 grind [o6,dX,Dk,af,aD,wS,Z6]
theorem Q9(h:AB a b){sz:Nat}{ops:List Oper}:∀ {l:List Oper} {id:Nat} {T:PT V} {hs:HS} {acc:List (List Nat×List Nat)} {r:(PT V×HS)×List (List Nat×List Nat)},
 lZ E a sz ops l id T hs acc=some r->lZ E b sz ops l id T hs acc=some r:=by
 intro l
 induction l with
 |nil=>intro id T hs acc r hr;exact hr
 | cons o l ih =>
   intro id T hs acc r hr;replace hr:(ob (gD E a ops o id (dD T (looks ops o)) hs) fun r=>ob (y7 sz T o.dst r.1) fun T'=>lZ E a sz ops l (id+1) T' r.2.1 (fC acc [r.2.2]))=some r:=hr;show (ob (gD E b ops o id (dD T (looks ops o)) hs) fun r=>ob (y7 sz T o.dst r.1) fun T'=>lZ E b sz ops l (id+1) T' r.2.1 (fC acc [r.2.2]))=some r;simp only[af]at hr ⊢;obtain⟨q,h1,T',h2,h3⟩:=hr;refine⟨q,?_,T',h2,ih h3⟩;simp only[gD,af]at h1 ⊢;obtain⟨w,h4,h5⟩:=h1;refine⟨w,h4,?_⟩
   grind [dX,Sc]
theorem znW(h:AB a b){sz:Nat}{l:List Oper}{draw:Bool}{r:Ex×PT V×HS}(hr:Ra E a sz l draw T hs=some r):Ra E b sz l draw T hs=some r:=by
 grind [Ra,af,dX,Ed,aD,Q9,Ga]
theorem TK(h:AB a b){rd:Bool}{sz:Nat}{c:Code}{q r:Ex×PT V×HS}(hr:yZ a rd sz c q=some r):yZ b rd sz c q=some r:=by
 unfold yZ at hr ⊢
 cases hq:q.1 with
 |normal=>rw[hq]at hr;exact h.code hr
 |ret=>rw[hq]at hr;exact hr
 |exit i=>rw[hq]at hr;exact hr
theorem zkR(h:AB a b){rd:Bool}{sz:Nat}{c:Code}{r:Ex×PT V×HS}(hr:Ei E a rd sz c T hs=some r):Ei E b rd sz c T hs=some r:=by
 cases c<;>simp only[Ei]at hr ⊢<;>first|exact hr|exact znW h hr|skip
 case seq x y =>
  simp only[af]at hr ⊢;obtain⟨q,h1,h2⟩:=hr;exact⟨q,h.code h1,TK h h2⟩
 case cond q x y =>
  simp only[af]at hr ⊢;obtain⟨v,h1,t,h2,h3⟩:=hr;refine⟨v,h1,t,h2,?_⟩;rw[dX]at h3 ⊢;split at h3
  . rename_i hw;rw[if_pos hw];exact h.code h3
  . rename_i hw;rw[if_neg hw];exact h.code h3
 case block id body =>
  simp only[af]at hr ⊢;obtain⟨q,h1,h2⟩:=hr;exact⟨q,h.code h1,h2⟩
 case loop body =>
  simp only[af]at hr ⊢;obtain⟨q,h1,h2⟩:=hr;exact⟨q,h.code h1,TK h h2⟩
 case rangeFunc g ps assign body =>
  simp only[aD,af,z8]at hr ⊢;obtain⟨h1,v,h2,p,h3,h4,q,h5,h6⟩:=hr;exact⟨h1,v,h2,p,h3,h4,q,h.call h5,h6⟩
theorem zk9(h:AB a b){f:FuncId}{vs:List V}{r:V×HS}(hr:zI E a f vs hs=some r):zI E b f vs hs=some r:=by
 simp only[zI,af]at hr ⊢;obtain⟨fn,h1,c,h2,T,h3,q,h4,h5⟩:=hr;exact⟨fn,h1,c,h2,T,h3,q,h.code h4,h5⟩
theorem PD(E:Env):∀ n,AB (jY E n) (jY E (n+1)):=by
 intro n
 induction n with
 |zero=>exact⟨fun h=>(by cases h),fun h=>(by cases h)⟩
 |succ n ih=>exact⟨fun h=>zkR ih h,fun h=>zk9 ih h⟩
theorem xK(E:Env){m n:Nat}(h:m<=n):AB (jY E m) (jY E n):=by
 induction h with
 |refl=>exact⟨fun h=>h,fun h=>h⟩
 |step _ ih=>exact⟨fun h=>(PD E _).code (ih.code h),fun h=>(PD E _).call (ih.call h)⟩
end
end Go.J
/- zFS runs of the gI: a small calculus. -/
namespace Go.J
def ok{α:Type}(x:Option α)(K:α->Prop):Prop:=∃ a,x=some a/\K a
theorem aW{α:Type}(a:α)(K:α->Prop):ok (some a) K=K a:=propext ⟨fun ⟨b,h,k⟩=>by cases h;exact k,fun k=>⟨a,rfl,k⟩⟩
theorem dA{α β:Type}(x:Option α)(f:α->Option β)(K:β->Prop):ok (ob x f) K=ok x fun a=>ok (f a) K:=by
 cases x with
 |none=>exact propext ⟨fun ⟨b,h,_⟩=>(by cases h),fun ⟨b,h,_⟩=>(by cases h)⟩
 |some a=>rw[bP,aW]
theorem jA{α:Type}(c:Bool)(x:Option α)(K:α->Prop):ok (gd c x) K=(c=true/\ok x K):=by
 cases c with
 |true=>rw[jT];simp
 |false=>rw[Pj];exact propext ⟨fun ⟨b,h,_⟩=>(by cases h),fun ⟨h,_⟩=>(by cases h)⟩
theorem ma{α:Type}{x:Option α}{K K':α->Prop}(h:ok x K)(hk:∀ a,K a->K' a):ok x K':=let ⟨a,h1,h2⟩:=h;⟨a,h1,hk a h2⟩
def br(c A B:Prop):Prop:=(c->A)/\(¬ c->B)
theorem zk5(c:Prop) [Decidable c](A B:Prop):br c A B=if c then A else B:=by
 grind [br]
theorem Yl(A B:Prop):br True A B=A:=by simp[br]
theorem Qc(A B:Prop):br False A B=B:=by simp[br]
section
variable {E:Env}{rd:Bool}{sz:Nat}{T:PT V}{hs:HS}{Q:Ex->PT V->HS->Prop}
def Jc(E:Env)(rd:Bool)(sz:Nat)(c:Code)(T:PT V)(hs:HS)(Q:Ex->PT V->HS->Prop):Prop :=
 ∃ n ex T' hs',(jY E n).code rd sz c T hs=some (ex,T',hs')/\Q ex T' hs'
def Ex.then(K:PT V->HS->Prop)(Q:Ex->PT V->HS->Prop):Ex->PT V->HS->Prop
 |.normal,T,hs=>K T hs
 |.ret,T,hs=>Q .ret T hs
 |.exit i,T,hs=>Q (.exit i) T hs
def Ex.inBlock(id:Nat)(Q:Ex->PT V->HS->Prop):Ex->PT V->HS->Prop
 |.normal,T,hs=>Q .normal T hs
 |.ret,T,hs=>Q .ret T hs
 |.exit i,T,hs=>if i=id then Q .normal T hs else Q (.exit i) T hs
theorem Cc{c:Code}{Q':Ex->PT V->HS->Prop}(h:Jc E rd sz c T hs Q)(hq:∀ e T hs,Q e T hs->Q' e T hs):Jc E rd sz c T hs Q' :=
 let ⟨n,e,T',hs',h1,h2⟩:=h;⟨n,e,T',hs',h1,hq _ _ _ h2⟩
theorem zpO(h:Q .normal T hs):Jc E rd sz .skip T hs Q:=⟨1,_,_,_,rfl,h⟩
theorem zpQ{id:Nat}(h:Q (.exit id) T hs):Jc E rd sz (.exit id) T hs Q:=⟨1,_,_,_,rfl,h⟩
theorem zwO(h:Q .ret T hs):Jc E rd sz .ret T hs Q:=⟨1,_,_,_,rfl,h⟩
theorem zwN{a b:Code}(h:Jc E rd sz a T hs (Ex.then (fun T hs=>Jc E rd sz b T hs Q) Q)):Jc E rd sz (.seq a b) T hs Q:=by
 obtain⟨n,e,T1,hs1,h1,h2⟩:=h
 cases e with
 | normal =>
   obtain⟨m,e2,T2,hs2,h3,h4⟩:=h2;refine⟨max n m+1,e2,T2,hs2,?_,h4⟩;show (ob ((jY E (max n m)).code rd sz a T hs) fun r=>yZ (jY E (max n m)) rd sz b r)=_;rw[(xK E (Nat.le_max_left n m)).code h1,bP];exact(xK E (Nat.le_max_right n m)).code h3
 |ret=>exact⟨n+1,.ret,T1,hs1,by show (ob ((jY E n).code rd sz a T hs) fun r=>yZ (jY E n) rd sz b r)=_;rw[h1,bP];rfl,h2⟩
 |exit i=>exact⟨n+1,.exit i,T1,hs1,by show (ob ((jY E n).code rd sz a T hs) fun r=>yZ (jY E n) rd sz b r)=_;rw[h1,bP];rfl,h2⟩
theorem zpP{c:Code}(h:Jc E rd sz c T hs (Ex.then (fun T hs=>Jc E rd sz (.loop c) T hs Q) Q)):Jc E rd sz (.loop c) T hs Q:=by
 obtain⟨n,e,T1,hs1,h1,h2⟩:=h
 cases e with
 | normal =>
   obtain⟨m,e2,T2,hs2,h3,h4⟩:=h2;refine⟨max n m+1,e2,T2,hs2,?_,h4⟩;show (ob ((jY E (max n m)).code rd sz c T hs) fun r=>yZ (jY E (max n m)) rd sz (.loop c) r)=_;rw[(xK E (Nat.le_max_left n m)).code h1,bP];exact(xK E (Nat.le_max_right n m)).code h3
 |ret=>exact⟨n+1,.ret,T1,hs1,by show (ob ((jY E n).code rd sz c T hs) fun r=>yZ (jY E n) rd sz (.loop c) r)=_;rw[h1,bP];rfl,h2⟩
 |exit i=>exact⟨n+1,.exit i,T1,hs1,by show (ob ((jY E n).code rd sz c T hs) fun r=>yZ (jY E n) rd sz (.loop c) r)=_;rw[h1,bP];rfl,h2⟩
theorem zpR{q:Operand}{a b:Code}{t:Bool}(hq:aG T q=some (.bool t))(h1:t=true->Jc E rd sz a T hs Q)(h2:t=false->Jc E rd sz b T hs Q):Jc E rd sz (.cond q a b) T hs Q:=by
 have key:∀ n,(jY E (n+1)).code rd sz (.cond q a b) T hs=bi t ((jY E n).code rd sz a T hs) ((jY E n).code rd sz b T hs):=by
  intro n;show (ob (aG T q) fun v=>ob v.bool? fun t=>bi t ((jY E n).code rd sz a T hs) ((jY E n).code rd sz b T hs))=_;rw[hq];rfl
 cases t with
 | true =>
   obtain⟨n,e,T1,hs1,h3,h4⟩:=h1 rfl;exact⟨n+1,e,T1,hs1,by rw[key];exact h3,h4⟩
 | false =>
   obtain⟨n,e,T1,hs1,h3,h4⟩:=h2 rfl;exact⟨n+1,e,T1,hs1,by rw[key];exact h3,h4⟩
theorem zlz{id:Nat}{c:Code}(h:Jc E rd sz c T hs (Ex.inBlock id Q)):Jc E rd sz (.block id c) T hs Q:=by
 obtain⟨n,e,T1,hs1,h1,h2⟩:=h
 have key:(jY E (n+1)).code rd sz (.block id c) T hs=IB id (e,T1,hs1):=by
  show (ob ((jY E n).code rd sz c T hs) fun r=>IB id r)=_;rw[h1];rfl
 cases e with
 |normal=>exact⟨n+1,_,_,_,key,h2⟩
 |ret=>exact⟨n+1,_,_,_,key,h2⟩
 | exit i =>
   by_cases hi:i=id
   . refine⟨n+1,.normal,T1,hs1,?_,by simpa [Ex.inBlock,hi]using h2⟩;rw[key];show bi (Nat.beq i id) _ _=_
     grind [dX,beq_true]
   . refine⟨n+1,.exit i,T1,hs1,?_,by simpa [Ex.inBlock,hi]using h2⟩;rw[key];show bi (Nat.beq i id) _ _=_
     grind [dX,beq_true]
def Ro(E:Env)(sz:Nat)(ops l:List Oper)(id:Nat)(T:PT V)(hs:HS)(Q:PT V->HS->Prop):Prop:=∃ n T' hs',kT E (jY E n) sz ops l id T hs=some (T',hs')/\Q T' hs'
theorem KN{id:Nat}{ops:List Oper}(h:Ro E sz ops ops hs.n T { H:=hs.H,n:=hs.n+ops.length,log:=hs.log } fun T hs=>Q .normal T hs):Jc E rd sz (.region id ops.toArray false) T hs Q:=by
 obtain⟨n,T1,hs1,h1,h2⟩:=h;refine⟨n+1,.normal,T1,hs1,?_,h2⟩;show (ob (bi false _ (kT E (jY E n) sz ops ops hs.n T { H:=hs.H,n:=hs.n+aN ops,log:=hs.log })) fun r=>some (Ex.normal,r.1,r.2))=_;rw[dE,bJ,h1];rfl
variable {ops l:List Oper}{id:Nat}{R:PT V->HS->Prop}
theorem zwI:Ro E sz ops [] id T hs R=R T hs:=propext ⟨fun ⟨_,_,_,h1,h2⟩=>by cases h1;exact h2,fun h=>⟨0,T,hs,rfl,h⟩⟩
theorem MV{o:Oper}(h:∃ n r,lI E (jY E n) sz ops o id T hs=some r/\Ro E sz ops l (id+1) r.1 r.2 R):Ro E sz ops (o::l) id T hs R:=by
 obtain⟨n,⟨T1,hs1⟩,h1,m,T2,hs2,h2,h3⟩:=h;refine⟨max n m,T2,hs2,?_,h3⟩;show (ob (lI E (jY E (max n m)) sz ops o id T hs) fun r=>kT E (jY E (max n m)) sz ops l (id+1) r.1 r.2)=_;rw[Ke (xK E (Nat.le_max_left n m)) h1,bP];exact Ga (xK E (Nat.le_max_right n m)) h2
def put(sz:Nat)(T:PT V)(d:Option Tmp)(v:V)(K:PT V->Prop):Prop :=
 match d with
 |none=>K T
 |some d=>d<sz/\K (T.set d v)
theorem Ll{d:Option Tmp}{v:V}{K:PT V->Prop}(h:put sz T d v K):∃ T',y7 sz T d v=some T'/\K T':=by
 cases d with
 |none=>exact⟨T,rfl,h⟩
 |some d=>exact⟨T.set d v,by show gd (Nat.blt d sz) _=_;rw[dO.2 h.1];rfl,h.2⟩
end
theorem zca{E:Env}{f:FuncId}{fn:Func}{c:Code}{vs:List V}{hs:HS}{T:PT V}{K:V->HS->Prop}(hf:E.P.funcs[f]?=some fn)(hb:fn.body=some c)(he:iI fn.ntmps vs 0 .leaf=some T)
 (h:Jc E false fn.ntmps c T hs fun ex T' hs'=>(∀ i,ex≠.exit i)/\ok (Bb E.P T' hs' fn.results.toList) fun l=>K (nu l) hs'):∃ n v hs',(jY E n).call f vs hs=some (v,hs')/\K v hs':=by
 obtain⟨n,ex,T',hs',h1,h2,l,h3,h4⟩:=h;refine⟨n+1,nu l,hs',?_,h4⟩;show (ob (E.P.funcs[f]?) fun fn=>ob fn.body fun c=>ob (iI fn.ntmps vs 0 .leaf) fun T=>ob ((jY E n).code false fn.ntmps c T hs) fun r=>G8 E.P fn r)=_
 grind [bP,G8]
end Go.J
/- Code without what the gI does not look at;symbolic runs of it. -/
namespace Go.J
structure rH where
 d:Option Tmp
 op:Op
 g:Option (Tmp×Bool)
structure SD where
 d:Option Tmp
 op:Op
 g:Option (Tmp×Bool)
 lk:List Nat
inductive SC where
 |draw (l:List SD) (bs:List Nat)
 |skip|ret
 |exit (id:Nat)
 |reg (l:List rH)
 |seq (a b:SC)
 |cond (q:Operand) (a b:SC)
 |block (id:Nat) (a:SC)
 |loop (a:SC)
 |range (g:Operand) (ps:Array Tmp) (a b:SC)
def zS (ops:List Oper):Option (Nat×Bool)->Option (Option (Tmp×Bool))
 |none=>some none
 | some (j,w)=>match ops[j]? with
   | some p=>match p.dst with
     |some d=>some (some (d,w))
     |none=>none
   |none=>none
def stripL (ops:List Oper):List Oper->Option (List rH)
 | []=>some []
 | o::l=>match zS ops o.guard,stripL ops l with
   |some g,some r=>some (⟨o.dst,o.op,g⟩::r)
   |_,_=>none
def zT (ops:List Oper):List Oper->Option (List SD)
 | []=>some []
 | o::l=>match zS ops o.guard,zT ops l with
   |some g,some r=>some (⟨o.dst,o.op,g,looks ops o⟩::r)
   |_,_=>none
def aB:Code->Option SC
 | .region _ ops true=>match zT ops.toList ops.toList,Im ops.toList with
   |some l,some bs=>some (.draw l bs)
   |_,_=>none
 |.skip=>some .skip
 |.ret=>some .ret
 |.exit i=>some (.exit i)
 | .region _ ops false=>match stripL ops.toList ops.toList with
   |some l=>some (.reg l)
   |none=>none
 | .seq a b=>match aB a,aB b with
   |some a,some b=>some (.seq a b)
   |_,_=>none
 | .cond q a b=>match aB a,aB b with
   |some a,some b=>some (.cond q a b)
   |_,_=>none
 | .block i a=>match aB a with
   |some a=>some (.block i a)
   |none=>none
 | .loop a=>match aB a with
   |some a=>some (.loop a)
   |none=>none
 | .rangeFunc g ps a b=>match aB a,aB b with
   |some a,some b=>some (.range g ps a b)
   |_,_=>none
 |_=>none
section
variable {E:Env}{rd:Bool}{sz:Nat}{T:PT V}{hs:HS}{Q:Ex->PT V->HS->Prop}
def V.guard? (v:V)(w:Bool):Option Bool:=match v with
 |.bool b=>some b
 |.tuple []=>some (!w)
 |_=>none
def V.zAB(v:V)(w:Bool):Option Bool:=match v with
 |.bool b=>some (oN b w)
 |.tuple []=>some false
 |_=>none
theorem V.guard?_want {v:V}{w q:Bool}(h:v.guard? w=some q):v.zAB w=some (oN q w):=by
 unfold V.guard? at h;split at h
 . cases h;rfl
 . cases h;cases w<;>rfl
 . cases h
def qL (E:Env) (id:Nat) (T:PT V) (hs:HS) (op:Op) (K:V->HS->Prop):Prop :=
 match op with
 | .call c=>match c.callee with
   |.builtin b=>(bE op≠0->hs.H.get id=none)/\ok (fe T c.args.toList) fun vs=>ok (jF E.P hs id b c.argTypes.toList vs) fun r=>K r.1 r.2
   |.value x=>hs.H.get id=none/\ok (aG T x) fun v=>ok (funcOf v) fun p=>ok (fe T c.args.toList) fun vs=>ok (E.dS p.1 (fC vs p.2) hs) fun r=>K r.1 r.2
   |.invoke _ _=>False
 |op=>(bE op≠0->hs.H.get id=none)/\ok (GA E.P false T hs id (I7 op)) fun r=>K r.1 r.2
def wpS(E:Env)(id:Nat)(T:PT V)(hs:HS)(s:rH)(K:V->HS->Prop):Prop :=
 match s.g with
 |none=>qL E id T hs s.op K
 |some (t,w)=>ok (T.get t) fun v=>ok (v.guard? w) fun q=>if q=w then qL E id T hs s.op K else K iZ hs
def Rs(E:Env)(sz:Nat):List rH->Nat->PT V->HS->(PT V->HS->Prop)->Prop
 | [],_,T,hs,R=>R T hs
 |s::l,id,T,hs,R=>wpS E id T hs s fun v hs'=>put sz T s.d v fun T1=>Rs E sz l (id+1) T1 hs' R
theorem za0 {id:Nat} {op:Op} {K:V->HS->Prop} (h:qL E id T hs op K):(bE op≠0->hs.H.get id=none) /\
 ((jE op=none/\ok (GA E.P false T hs id (I7 op)) fun r=>K r.1 r.2)\/(∃ c,jE op=some c/\ok (fe T c.args.toList) fun vs =>
   (∃ b,c.callee=.builtin b/\ok (jF E.P hs id b c.argTypes.toList vs) fun r=>K r.1 r.2)\/∃ x f qB,c.callee=.value x/\aG T x=some (.func f qB)/\ok (E.dS f (fC vs qB) hs) fun r=>K r.1 r.2)):=by
 unfold qL at h;split at h
 . rename_i c;split at h
   . rename_i b hb;exact⟨h.1,.inr ⟨c,rfl,ma h.2 fun vs hv=>.inl ⟨b,hb,hv⟩⟩⟩
   . rename_i x hx;obtain⟨h1,v,hv,p,hp,vs,hvs,h2⟩:=h;obtain⟨f,qB⟩:=p
     have e:v=.func f qB:=by
      unfold funcOf at hp;split at hp
      . cases hp;rfl
      . cases hp
     subst e;exact⟨fun _=>h1,.inr ⟨c,rfl,vs,hvs,.inr ⟨x,f,qB,hx,hv,h2⟩⟩⟩
   . exact h.elim
 . rename_i hne;refine⟨h.1,.inl ⟨?_,h.2⟩⟩;cases op<;>first|rfl|exact absurd rfl (hne _)
theorem znz {ops:List Oper} {id:Nat} {o:Oper} {n:Nat} {K:PT V->HS->Prop} {q:Bool} (hw:mP ops T o=some q)
 (h:if q=true then qL E id T hs o.op (fun v hs'=>put sz T o.dst v fun T1=>K T1 hs')else put sz T o.dst iZ fun T1=>K T1 hs) :
 ∃ r,lI E (jY E n) sz ops o id T hs=some r/\K r.1 r.2:=by
 cases q with
 | false =>
   rw[if_neg (by simp)]at h;obtain⟨T1,h4,h5⟩:=Ll h;refine⟨(T1,hs),?_,h5⟩;show (ob (mP ops T o) fun w=>bi w _ _)=_;rw[hw,bP,dE,h4];rfl
 | true =>
   rw[if_pos rfl]at h;obtain⟨h1,h2⟩:=za0 h
   have hv:bi (Nat.beq (bE o.op) 0) true (cB hs id)=true:=by
    grind [dX,ae,beq_true]
   have fin:∀ r:V×HS,stepJ E (jY E n) false T hs id o=some r->(put sz T o.dst r.1 fun T1=>K T1 r.2)->∃ r,lI E (jY E n) sz ops o id T hs=some r/\K r.1 r.2:=by
    intro r hst hp;obtain⟨T1,h4,h5⟩:=Ll hp;refine⟨(T1,r.2),?_,h5⟩;show (ob (mP ops T o) fun w=>bi w _ _)=_
    grind [bP,dU,jT]
   rcases h2 with⟨hc,r,h2,h3⟩|⟨c,hc,vs,hvs,h2⟩
   . exact fin r (by unfold stepJ;rw[hc];exact h2) h3
   . rcases h2 with⟨b,hb,r,h2,h3⟩|⟨x,f,qB,hx,hxv,r,h2,h3⟩
     . refine fin r ?_ h3;unfold stepJ;rw[hc];show (ob (fe T c.args.toList) fun vs=>_)=_
       grind [bP]
     . refine fin r ?_ h3;unfold stepJ;rw[hc];show (ob (fe T c.args.toList) fun vs=>_)=_
       grind [bP,ob,aG,zQ,jY,uY,fC,fT]
theorem zls {ops:List Oper}:∀ {l:List Oper} {s:List rH} {id:Nat} {T:PT V} {hs:HS} {R:PT V->HS->Prop},stripL ops l=some s->Rs E sz s id T hs R->Ro E sz ops l id T hs R:=by
 intro l
 induction l with
 | nil =>
   intro s id T hs R h hr;cases h;rw[zwI];exact hr
 | cons o l ih =>
   intro s id T hs R h hr;unfold stripL at h;split at h
   . rename_i g r hg hl;cases h;have hr':wpS E id T hs ⟨o.dst,o.op,g⟩ fun v hs'=>put sz T o.dst v fun T1=>Rs E sz r (id+1) T1 hs' R:=hr
     unfold wpS at hr'
     have hst:∃ q,mP ops T o=some q/\(if q=true then qL E id T hs o.op (fun v hs'=>put sz T o.dst v fun T1=>Rs E sz r (id+1) T1 hs' R)else put sz T o.dst iZ fun T1=>Rs E sz r (id+1) T1 hs R):=by
      unfold zS at hg;split at hg
      . rename_i hgn;cases hg;refine⟨true,?_,by rw[if_pos rfl];exact hr'⟩;unfold mP;rw[hgn];rfl
      . rename_i j w hgn;split at hg
        . rename_i p hp;split at hg
          . rename_i d hd;cases hg;obtain⟨v,hv,q,hq,h2⟩:=hr';refine⟨oN q w,?_,?_⟩
            . unfold mP;rw[hgn,fT];show (ob (mI ops j) fun p=>_)=_;rw[kV,hp,bP,hd,bP,hv,bP];exact V.guard?_want hq
            . by_cases e:q=w
              . rw[if_pos e]at h2;rw[if_pos (by rw[e];cases w<;>rfl)];exact h2
              . rw[if_neg e]at h2;rw[if_neg (by revert e;cases w<;>cases q<;>simp[oN,bi,nt])];exact h2
          . cases hg
        . cases hg
     obtain⟨q,hw,h3⟩:=hst;obtain⟨r1,h4,h5⟩:=znz (n:=0) hw h3
     grind [MV]
   . cases h
def Js(E:Env)(rd:Bool)(sz:Nat)(s:SC)(T:PT V)(hs:HS)(Q:Ex->PT V->HS->Prop):Prop:=∀ c,aB c=some s->Jc E rd sz c T hs Q
theorem zpM{s:SC}{Q':Ex->PT V->HS->Prop}(h:Js E rd sz s T hs Q)(hq:∀ e T hs,Q e T hs->Q' e T hs):Js E rd sz s T hs Q':=fun c hc=>Cc (h c hc) hq
theorem eB{c:Code}{s:SC}(h:aB c=some s):match s with
 |.draw l bs=>∃ id ops,c=.region id ops true/\zT ops.toList ops.toList=some l/\Im ops.toList=some bs
 |.skip=>c=.skip
 |.ret=>c=.ret
 |.exit i=>c=.exit i
 |.reg l=>∃ id ops,c=.region id ops false/\stripL ops.toList ops.toList=some l
 |.seq a b=>∃ x y,c=.seq x y/\aB x=some a/\aB y=some b
 |.cond q a b=>∃ x y,c=.cond q x y/\aB x=some a/\aB y=some b
 |.block i a=>∃ x,c=.block i x/\aB x=some a
 |.loop a=>∃ x,c=.loop x/\aB x=some a
 |.range g ps a b=>∃ x y,c=.rangeFunc g ps x y/\aB x=some a/\aB y=some b:=by
 cases c with
 |skip=>cases h;rfl
 |ret=>cases h;rfl
 |exit i=>cases h;rfl
 | region id ops draw =>
   cases draw with
   | true =>
     grind [aB,id]
   | false =>
     grind [aB,id]
 | seq x y =>
   grind [aB]
 | cond q x y =>
   grind [aB]
 | block i x =>
   grind [aB]
 | rangeFunc g ps x y =>
   grind [aB]
 | loop x =>
   grind [aB]
 |_=>cases h
theorem MX(h:Q .normal T hs):Js E rd sz .skip T hs Q:=fun c hc=>by have e:c=.skip:=eB hc;rw[e];exact zpO h
theorem zwM(h:Q .ret T hs):Js E rd sz .ret T hs Q:=fun c hc=>by have e:c=.ret:=eB hc;rw[e];exact zwO h
theorem YB{i:Nat}(h:Q (.exit i) T hs):Js E rd sz (.exit i) T hs Q:=fun c hc=>by have e:c=.exit i:=eB hc;rw[e];exact zpQ h
theorem xX{a b:SC}(h:Js E rd sz a T hs (Ex.then (fun T hs=>Js E rd sz b T hs Q) Q)):Js E rd sz (.seq a b) T hs Q:=fun c hc=>by
 obtain⟨x,y,rfl,hx,hy⟩:=eB hc;refine zwN (Cc (h x hx) fun e T hs he=>?_)
 cases e with
 |normal=>exact he y hy
 |ret=>exact he
 |exit i=>exact he
theorem FK{q:Operand}{a b:SC}{t:Bool}(hq:aG T q=some (.bool t))(h1:t=true->Js E rd sz a T hs Q)(h2:t=false->Js E rd sz b T hs Q):Js E rd sz (.cond q a b) T hs Q:=fun c hc=>by
 obtain⟨x,y,rfl,hx,hy⟩:=eB hc;exact zpR hq (fun h=>h1 h x hx) (fun h=>h2 h y hy)
theorem IW{id:Nat}{a:SC}(h:Js E rd sz a T hs (Ex.inBlock id Q)):Js E rd sz (.block id a) T hs Q:=fun c hc=>by
 obtain⟨x,rfl,hx⟩:=eB hc;exact zlz (h x hx)
theorem YA{a:SC}(h:Js E rd sz a T hs (Ex.then (fun T hs=>Js E rd sz (.loop a) T hs Q) Q)):Js E rd sz (.loop a) T hs Q:=fun c hc=>by
 obtain⟨x,rfl,hx⟩:=eB hc;refine zpP (Cc (h x hx) fun e T hs he=>?_)
 cases e with
 |normal=>exact he _ hc
 |ret=>exact he
 |exit i=>exact he
theorem Du{l:List rH}(h:Rs E sz l hs.n T { H:=hs.H,n:=hs.n+l.length,log:=hs.log } fun T hs=>Q .normal T hs):Js E rd sz (.reg l) T hs Q:=fun c hc=>by
 obtain⟨id,ops,rfl,hl⟩:=eB hc
 have hlen:∀ {m:List Oper} {s:List rH},stripL ops.toList m=some s->s.length=m.length:=by
  intro m
  induction m with
  |nil=>intro s h;cases h;rfl
  | cons o m ih =>
    intro s h;unfold stripL at h;split at h
    . rename_i g r hg hr;cases h;simp[ih hr]
    . cases h
 rw[hlen hl]at h;have:=KN (id:=id) (rd:=rd) (Q:=Q) (zls hl h);simpa using this
end
section
variable {E:Env}{rd:Bool}{sz:Nat}{T:PT V}{hs:HS}{Q:Ex->PT V->HS->Prop}
def za2 (E:Env) (id:Nat) (T:PT V) (hs:HS) (op:Op) (K:V->HS->List Nat×List Nat->Prop):Prop :=
 match bE op with
 | 0 => match op with
   | .call c=>match c.callee with
     |.builtin b=>ok (fe T c.args.toList) fun vs=>ok (jF E.P { H:=dD hs.H (readsOf T op),n:=0,log:=[] } id b c.argTypes.toList vs) fun r=>K r.1 hs (readsOf T op,[])
     |_=>False
   |op=>ok (GA E.P true T { H:=dD hs.H (readsOf T op),n:=0,log:=[] } id (I7 op)) fun r=>K r.1 hs (readsOf T op,[])
 | 1=>hs.H.get id=none/\ok (GA E.P true T { H:=.leaf,n:=0,log:=[] } id (I7 op)) fun r=>ok (r.2.H.get id) fun o'=>o'.fz=false/\K r.1 (hs.put id o') ([id],[])
 | _ => hs.H.get id=none/\(match op with
   | .call c=>match c.callee with
     |.builtin b=>ok (fe T c.args.toList) fun vs=>ok (jF E.P { H:=hs.H,n:=hs.n,log:=[] } id b c.argTypes.toList vs) fun r=>K r.1 { H:=r.2.H,n:=r.2.n,log:=fC r.2.log hs.log } ([],r.2.log)
     |.value x=>ok (aG T x) fun v=>ok (funcOf v) fun p=>ok (fe T c.args.toList) fun vs=>ok (E.dS p.1 (fC vs p.2) { H:=hs.H,n:=hs.n,log:=[] }) fun r=>K r.1 { H:=r.2.H,n:=r.2.n,log:=fC r.2.log hs.log } ([],r.2.log)
     |.invoke _ _=>False
   |op=>ok (GA E.P true T { H:=hs.H,n:=hs.n,log:=[] } id (I7 op)) fun r=>K r.1 { H:=r.2.H,n:=r.2.n,log:=fC r.2.log hs.log } ([],r.2.log))
def wo(E:Env)(id:Nat)(T:PT V)(hs:HS)(op:Op)(K:V->HS->List Nat×List Nat->Prop):Prop :=
 match op with
 |.store t a x=>hs.H.get id=none/\ok (iq E.P T { H:=dD hs.H (jQ T hs (.store t a x)),n:=0,log:=[] } t a x) fun r=>K r.1 { H:=wZ hs.H r.2.H (jQ T hs (.store t a x)),n:=hs.n,log:=fC r.2.log hs.log } (jQ T hs (.store t a x),r.2.log)
 |op=>za2 E id T hs op K
def Qy(E:Env)(id:Nat)(T:PT V)(hs:HS)(s:SD)(K:V->HS->List Nat×List Nat->Prop):Prop :=
 match s.g with
 |none=>wo E id T hs s.op K
 |some (t,w)=>ok (T.get t) fun v=>ok (v.guard? w) fun q=>if q=w then wo E id T hs s.op K else K iZ hs ([],[])
def Rd(E:Env)(sz:Nat):List SD->Nat->PT V->HS->List (List Nat×List Nat)->(PT V->HS->List (List Nat×List Nat)->Prop)->Prop
 | [],_,T,hs,acc,R=>R T hs acc
 |s::l,id,T,hs,acc,R=>Qy E id (dD T s.lk) hs s fun v hs' rw=>put sz T s.d v fun T1=>Rd E sz l (id+1) T1 hs' (fC acc [rw]) R
theorem za1 {id:Nat} {o:Oper} {n:Nat} {K:V->HS->List Nat×List Nat->Prop} (h:za2 E id T hs o.op K):∃ r,oM E (jY E n) o id T hs=some r/\K r.1 r.2.1 r.2.2:=by
 unfold za2 at h
 have hcall:∀ {hs0:HS} {c:Call} {b:Builtin} {vs:List V} {r:V×HS},jE o.op=some c->c.callee=.builtin b->fe T c.args.toList=some vs->jF E.P hs0 id b c.argTypes.toList vs=some r->stepJ E (jY E n) true T hs0 id o=some r:=by
  intro hs0 c b vs r h1 h2 h3 h4;unfold stepJ;rw[h1];show (ob (fe T c.args.toList) fun vs=>_)=_;rw[h3,bP,h2];exact h4
 have hop:∀ {hs0:HS} {r:V×HS},jE o.op=none->GA E.P true T hs0 id (I7 o.op)=some r->stepJ E (jY E n) true T hs0 id o=some r:=by
  intro hs0 r h1 h2;unfold stepJ;rw[h1];exact h2
 have hnone:∀ {op:Op},(∀ c,op≠.call c)->jE op=none:=by
  intro op h;cases op<;>first|rfl|exact absurd rfl (h _)
 split at h
 . rename_i hc
   have key:∀ r:V×HS,stepJ E (jY E n) true T { H:=dD hs.H (readsOf T o.op),n:=0,log:=[] } id o=some r->oM E (jY E n) o id T hs=some (r.1,hs,readsOf T o.op,[]):=by
    intro r hr;unfold oM;rw[hc];show (ob (stepJ E (jY E n) true T { H:=dD hs.H (readsOf T o.op),n:=0,log:=[] } id o) fun r=>some (r.1,hs,readsOf T o.op,[]))=_;rw[hr];rfl
   split at h
   . rename_i c hcc;split at h
     . rename_i b hb;obtain⟨vs,hvs,r,hr,hk⟩:=h;have hco:jE o.op=some c:=by rw[hcc];rfl
       exact⟨_,key r (hcall hco hb hvs hr),hk⟩
     . exact h.elim
   . rename_i hne;obtain⟨r,hr,hk⟩:=h;exact⟨_,key r (hop (hnone hne) hr),hk⟩
 . rename_i hc;obtain⟨h0,r,hr,o',ho,hz,hk⟩:=h;refine⟨(r.1,hs.put id o',[id],[]),?_,hk⟩;unfold oM;rw[hc];show (gd (cB hs id) (ob (stepJ E (jY E n) true T { H:=.leaf,n:=0,log:=[] } id o) fun r=>ob (r.2.H.get id) fun o'=>gd (nt o'.fz) (some (r.1,hs.put id o',[id],[]))))=_;rw[ae.2 h0,jT,hop (Ej hc) hr,bP,ho,bP,hz];rfl
 . rename_i hc0 hc1;obtain⟨h0,h⟩:=h
   have hc:bE o.op=2:=by
    rcases GD o.op with h|h|h
    . exact absurd h hc0
    . exact absurd h hc1
    . exact h
   have key:∀ r:V×HS,stepJ E (jY E n) true T { H:=hs.H,n:=hs.n,log:=[] } id o=some r->oM E (jY E n) o id T hs=some (r.1,{ H:=r.2.H,n:=r.2.n,log:=fC r.2.log hs.log },[],r.2.log):=by
    intro r hr;unfold oM;rw[hc];show (gd (cB hs id) (ob (stepJ E (jY E n) true T { H:=hs.H,n:=hs.n,log:=[] } id o) fun r=>some (r.1,({ H:=r.2.H,n:=r.2.n,log:=fC r.2.log hs.log }:HS),([]:List Nat),r.2.log)))=_;rw[ae.2 h0,jT,hr];rfl
   split at h
   . rename_i c hcc;have hco:jE o.op=some c:=by rw[hcc];rfl
     split at h
     . rename_i b hb;obtain⟨vs,hvs,r,hr,hk⟩:=h;exact⟨_,key r (hcall hco hb hvs hr),hk⟩
     . rename_i x hx;obtain⟨v,hv,p,hp,vs,hvs,r,hr,hk⟩:=h;obtain⟨f,qB⟩:=p
       have e:v=.func f qB:=by
        unfold funcOf at hp;split at hp
        . cases hp;rfl
        . cases hp
       subst e;refine⟨_,key r ?_,hk⟩;unfold stepJ;rw[hco];show (ob (fe T c.args.toList) fun vs=>_)=_;rw[hvs,bP,hx];show (ob (aG T x) fun v=>zQ E (jY E n) v vs _)=_;rw[hv,bP];show uY E (jY E n) f (fC vs qB) _=some r;unfold uY;rw[hr,fT]
     . exact h.elim
   . rename_i hne;obtain⟨r,hr,hk⟩:=h;exact⟨_,key r (hop (hnone hne) hr),hk⟩
theorem SV{id:Nat}{o:Oper}{n:Nat}{K:V->HS->List Nat×List Nat->Prop}(h:wo E id T hs o.op K):∃ r,o6 E (jY E n) o id T hs=some r/\K r.1 r.2.1 r.2.2:=by
 unfold wo at h;unfold o6;split at h
 . rename_i t a x hop;obtain⟨h0,r,hr,hk⟩:=h;have hs0:gK o.op=true:=by rw[hop];rfl
   rw[hs0,dU];unfold Dk;rw[ae.2 h0,jT,hop,pE hop,hr,bP]
   grind
 . rename_i hne
   have hs0:gK o.op=false:=by
    simp[gK]
   rw[hs0,dE];exact za1 h
theorem zFU {ops:List Oper} {n:Nat}:∀ {l:List Oper} {s:List SD} {id:Nat} {T:PT V} {hs:HS} {acc:List (List Nat×List Nat)} {R:PT V->HS->List (List Nat×List Nat)->Prop},zT ops l=some s->Rd E sz s id T hs acc R ->
 ∃ T' hs' acc',lZ E (jY E n) sz ops l id T hs acc=some ((T',hs'),acc')/\R T' hs' acc':=by
 intro l
 induction l with
 | nil =>
   intro s id T hs acc R h hr;cases h;exact⟨T,hs,acc,rfl,hr⟩
 | cons o l ih =>
   intro s id T hs acc R h hr;unfold zT at h;split at h
   . rename_i g r hg hl;cases h;have hr':Qy E id (dD T (looks ops o)) hs ⟨o.dst,o.op,g,looks ops o⟩ fun v hs' rw=>put sz T o.dst v fun T1=>Rd E sz r (id+1) T1 hs' (fC acc [rw]) R:=hr
     unfold Qy at hr'
     have hst:∃ q,gD E (jY E n) ops o id (dD T (looks ops o)) hs=some q/\put sz T o.dst q.1 fun T1=>Rd E sz r (id+1) T1 q.2.1 (fC acc [q.2.2]) R:=by
      unfold zS at hg;split at hg
      . rename_i hgn;cases hg;obtain⟨q,h1,h2⟩:=SV (n:=n) hr';refine⟨q,?_,h2⟩;have hw:mP ops (dD T (looks ops o)) o=some true:=by unfold mP;rw[hgn];rfl
        grind [gD,bP,dU]
      . rename_i j w hgn;split at hg
        . rename_i p hp;split at hg
          . rename_i d hd;cases hg;obtain⟨v,hv,q,hq,h2⟩:=hr'
            have hw:mP ops (dD T (looks ops o)) o=some (oN q w):=by
             unfold mP;rw[hgn,fT];show (ob (mI ops j) fun p=>_)=_;rw[kV,hp,bP,hd,bP,hv,bP];exact V.guard?_want hq
            by_cases e:q=w
            . rw[if_pos e]at h2;obtain⟨q1,h3,h4⟩:=SV (n:=n) h2;refine⟨q1,?_,h4⟩;unfold gD;rw[hw,bP,show oN q w=true by rw[e];cases w<;>rfl,dU];exact h3
            . rw[if_neg e]at h2;refine⟨(iZ,hs,[],[]),?_,h2⟩;unfold gD;rw[hw,bP,show oN q w=false by revert e;cases w<;>cases q<;>simp[oN,bi,nt],dE]
          . cases hg
        . cases hg
     obtain⟨q,h1,h2⟩:=hst;obtain⟨T1,h3,h4⟩:=Ll h2;obtain⟨T',hs',acc',h5,h6⟩:=ih hl h4;refine⟨T',hs',acc',?_,h6⟩;show (ob (gD E (jY E n) ops o id (dD T (looks ops o)) hs) fun r=>ob (y7 sz T o.dst r.1) fun T'=>lZ E (jY E n) sz ops l (id+1) T' r.2.1 (fC acc [r.2.2]))=_
     grind [bP]
   . cases h
theorem YC{l:List SD}{bs:List Nat}(h:Rd E sz l hs.n T { H:=hs.H,n:=hs.n+l.length,log:=hs.log } [] fun T hs acc=>lV acc acc 0 bs=true/\Q .normal T hs):Js E rd sz (.draw l bs) T hs Q:=fun c hc=>by
 obtain⟨id,ops,rfl,hl,hb⟩:=eB hc
 have hlen:∀ {m:List Oper} {s:List SD},zT ops.toList m=some s->s.length=m.length:=by
  intro m
  induction m with
  |nil=>intro s h;cases h;rfl
  | cons o m ih =>
    intro s h;unfold zT at h;split at h
    . rename_i g r hg hr;cases h;simp[ih hr]
    . cases h
 rw[hlen hl]at h;obtain⟨T',hs',acc',h1,h2,h3⟩:=zFU (n:=0) hl h;refine⟨1,.normal,T',hs',?_,h3⟩;show (ob (bi true (Ed E (jY E 0) sz ops.toList T hs) _) fun r=>some (Ex.normal,r.1,r.2))=_;rw[dU]
 have hd:Ed E (jY E 0) sz ops.toList T hs=some (T',hs'):=by
  show (ob (Im ops.toList) fun bs=>ob (lZ E (jY E 0) sz ops.toList ops.toList hs.n T { H:=hs.H,n:=hs.n+aN ops.toList,log:=hs.log } []) fun r=>gd (lV r.2 r.2 0 bs) (some r.1))=_;rw[hb,bP,bJ,h1,bP,h2,jT]
 rw[hd];rfl
end
theorem Y8{E:Env}{f:FuncId}{fn:Func}{s:SC}{vs:List V}{hs:HS}{T:PT V}{K:V->HS->Prop}(hf:E.P.funcs[f]?=some fn)(hb:fn.body.bind aB=some s)(he:iI fn.ntmps vs 0 .leaf=some T)
 (h:Js E false fn.ntmps s T hs fun ex T' hs'=>(∀ i,ex≠.exit i)/\ok (Bb E.P T' hs' fn.results.toList) fun l=>K (nu l) hs'):∃ n v hs',(jY E n).call f vs hs=some (v,hs')/\K v hs':=by
 cases hc:fn.body with
 |none=>rw[hc]at hb;cases hb
 |some c=>rw[hc]at hb;exact zca hf hc he (h c hb)
def Leaves(P:Program)(fn:Func)(K:V->HS->Prop)(ex:Ex)(T:PT V)(hs:HS):Prop:=(∀ i,ex≠.exit i)/\ok (Bb P T hs fn.results.toList) fun l=>K (nu l) hs
def Gives(r:V)(v:V)(hs:HS):Prop:=still hs v=some r
theorem IV{P:Program}{fn:Func}{K:V->HS->Prop}{T:PT V}{hs:HS}:Leaves P fn K .ret T hs=ok (Bb P T hs fn.results.toList) fun l=>K (nu l) hs :=
 propext ⟨fun h=>h.2,fun h=>⟨fun i h=>(by cases h),h⟩⟩
theorem zL{P:Program}{fn:Func}{K:V->HS->Prop}{T:PT V}{hs:HS}:Leaves P fn K .normal T hs=ok (Bb P T hs fn.results.toList) fun l=>K (nu l) hs :=
 propext ⟨fun h=>h.2,fun h=>⟨fun i h=>(by cases h),h⟩⟩
end Go.J
