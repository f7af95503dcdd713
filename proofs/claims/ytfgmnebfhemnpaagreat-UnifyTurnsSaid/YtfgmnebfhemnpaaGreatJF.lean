import Derived.Test.YtfgmnebfhemnpaaGreatJE
set_option linter.all false
noncomputable section
/- More depth changes no result. -/
namespace Go.J
structure EvLe(a b:Ev):Prop where
 code:∀ {rd sz c T hs r},a.code rd sz c T hs=some r->b.code rd sz c T hs=some r
 call:∀ {f vs hs r},a.call f vs hs=some r->b.call f vs hs=some r
section
variable {E:Env}{a b:Ev}{T:PT V}{hs:HS}
theorem zvu (h:EvLe a b) {f:FuncId} {vs:List V} {r:V×HS} (hr:zeG E a f vs hs=some r):zeG E b f vs hs=some r:=by
 unfold zeG at hr ⊢
 cases hp:E.pol f with
 | zero =>
   rw[hp]at hr;replace hr:bi (zD vs) (zbE a f vs hs) (a.call f vs hs)=some r:=hr;show bi (zD vs) (zbE b f vs hs) (b.call f vs hs)=some r;rw[za0]at hr ⊢;split at hr
   . rename_i hb;rw[if_pos hb];simp only[zbE,zt]at hr ⊢;obtain⟨q,h1,h2⟩:=hr;exact⟨q,h.call h1,h2⟩
   . rename_i hb;rw[if_neg hb];exact h.call hr
 | succ m =>
   rw[hp]at hr
   cases m with
   |zero=>exact h.call hr
   | succ m =>
    cases m with
    |succ m =>
     replace hr:zdf a f vs hs=some r:=hr;show zdf b f vs hs=some r;simp only[zdf,zt]at hr ⊢;obtain⟨q,h1,h2⟩:=hr;exact⟨q,h.call h1,h2⟩
    |zero =>
     replace hr:orc (a.call f vs hs) (fun args'=>zaZ a f args' hs) (zaD hs vs)=some r:=hr;show orc (b.call f vs hs) (fun args'=>zaZ b f args' hs) (zaD hs vs)=some r
     cases hs1:zaD hs vs with
     |none=>rw[hs1]at hr;exact h.call hr
     | some args' =>
       rw[hs1]at hr;replace hr:zaZ a f args' hs=some r:=hr;show zaZ b f args' hs=some r;simp only[zaZ,zt,z8]at hr ⊢;obtain⟨q,h1,h2⟩:=hr;exact⟨q,h.call h1,h2⟩
theorem zyr(h:EvLe a b){f:FuncId}{vs:List V}{r:V×HS}(hr:zfG E a f vs hs=some r):zfG E b f vs hs=some r:=by
 unfold zfG at hr ⊢
 cases hq:E.con f vs hs with
 |none=>rw[hq]at hr;exact zvu h hr
 |some q=>rw[hq]at hr;exact hr
theorem zqY(h:EvLe a b){id:Nat}{vs:List V}{r:V×HS}(hr:zdn a id vs hs=some r):zdn b id vs hs=some r:=by
 simp only[zdn,zt,z8]at hr ⊢;obtain⟨o,h1,l,h2,h3,T,h4,q,h5,h6,o1,h7,l1,h8,h9,p,h10,h11⟩:=hr;exact⟨o,h1,l,h2,h3,T,h4,q,h.code h5,h6,o1,h7,l1,h8,h9,p,h.code h10,h11⟩
theorem zfk(h:EvLe a b){dr:Bool}{id:Nat}{o:Oper}{r:V×HS}(hr:stepJ E a dr T hs id o=some r):stepJ E b dr T hs id o=some r:=by
 unfold stepJ at hr ⊢
 cases hc:zbI o.op with
 |none=>rw[hc]at hr;exact hr
 | some c =>
   rw[hc]at hr;replace hr:zch E a T hs id c=some r:=hr;show zch E b T hs id c=some r;simp only[zch,zt]at hr ⊢;obtain⟨vs,h1,h2⟩:=hr;refine⟨vs,h1,?_⟩
   cases hcal:c.callee with
   |builtin bb=>rw[hcal]at h2;exact h2
   | value x =>
     rw[hcal]at h2;simp only[zt]at h2 ⊢;obtain⟨v,h3,h4⟩:=h2;refine⟨v,h3,?_⟩;unfold zgS at h4 ⊢
     cases v with
     |func f cs=>exact zyr h h4
     |yld id=>exact zqY h h4
     |_=>cases h4
   |invoke x n=>rw[hcal]at h2;cases h2
theorem zl6(h:EvLe a b){sz id:Nat}{ops:List Oper}{o:Oper}{r:PT V×HS}(hr:zcy E a sz ops o id T hs=some r):zcy E b sz ops o id T hs=some r:=by
 simp only[zcy,zt]at hr ⊢;obtain⟨w,h1,h2⟩:=hr;refine⟨w,h1,?_⟩;rw[za0]at h2 ⊢;split at h2
 . rename_i hw;rw[if_pos hw];simp only[z8,zt]at h2 ⊢;obtain⟨h3,q,h4,h5⟩:=h2;exact⟨h3,q,zfk h h4,h5⟩
 . rename_i hw;rw[if_neg hw];exact h2
theorem ziT(h:EvLe a b){sz:Nat}{ops:List Oper}:∀ {l:List Oper} {id:Nat} {T:PT V} {hs:HS} {r:PT V×HS},zbW E a sz ops l id T hs=some r->zbW E b sz ops l id T hs=some r:=by
 intro l
 induction l with
 |nil=>intro id T hs r hr;exact hr
 | cons o l ih =>
   intro id T hs r hr;replace hr:(ob (zcy E a sz ops o id T hs) fun r=>zbW E a sz ops l (id+1) r.1 r.2)=some r:=hr;show (ob (zcy E b sz ops o id T hs) fun r=>zbW E b sz ops l (id+1) r.1 r.2)=some r;simp only[zt]at hr ⊢;obtain⟨q,h1,h2⟩:=hr;exact⟨q,zl6 h h1,ih h2⟩
theorem zvf(h:EvLe a b){o:Oper}{id:Nat}{r:V×HS×List Nat×List Nat}(hr:zdx E a o id T hs=some r):zdx E b o id T hs=some r:=by
 unfold zdx at hr ⊢
 cases hc:zM o.op with
 | zero =>
   rw[hc]at hr;replace hr:(ob (stepJ E a true T { H:=zam hs.H (readsOf T o.op),n:=0,log:=[] } id o) fun r=>some (r.1,hs,readsOf T o.op,[]))=some r:=hr;show (ob (stepJ E b true T { H:=zam hs.H (readsOf T o.op),n:=0,log:=[] } id o) fun r=>some (r.1,hs,readsOf T o.op,[]))=some r;simp only[zt]at hr ⊢;obtain⟨q,h1,h2⟩:=hr;exact⟨q,zfk h h1,h2⟩
 | succ m =>
   rw[hc]at hr
   cases m with
   | zero =>
     replace hr:(gd (zZ hs id) (ob (stepJ E a true T { H:=.leaf,n:=0,log:=[] } id o) fun r=>ob (r.2.H.get id) fun o'=>gd (nt o'.fz) (some (r.1,hs.put id o',[id],[]))))=some r:=hr;show (gd (zZ hs id) (ob (stepJ E b true T { H:=.leaf,n:=0,log:=[] } id o) fun r=>ob (r.2.H.get id) fun o'=>gd (nt o'.fz) (some (r.1,hs.put id o',[id],[]))))=some r;simp only[zt,z8]at hr ⊢;obtain⟨h0,q,h1,h2⟩:=hr;exact⟨h0,q,zfk h h1,h2⟩
   | succ m =>
     replace hr:(gd (zZ hs id) (ob (stepJ E a true T { H:=hs.H,n:=hs.n,log:=[] } id o) fun r=>some (r.1,{ H:=r.2.H,n:=r.2.n,log:=zbB r.2.log hs.log },[],r.2.log)))=some r:=hr;show (gd (zZ hs id) (ob (stepJ E b true T { H:=hs.H,n:=hs.n,log:=[] } id o) fun r=>some (r.1,{ H:=r.2.H,n:=r.2.n,log:=zbB r.2.log hs.log },[],r.2.log)))=some r;simp only[zt,z8]at hr ⊢;obtain⟨h0,q,h1,h2⟩:=hr;exact⟨h0,q,zfk h h1,h2⟩
theorem zpJ(h:EvLe a b){o:Oper}{id:Nat}{r:V×HS×List Nat×List Nat}(hr:zde E a o id T hs=some r):zde E b o id T hs=some r:=by
 unfold zde at hr ⊢;rw[za0]at hr ⊢;split at hr
 . rename_i hs0;rw[if_pos hs0];simp only[zjq,zt,z8]at hr ⊢;obtain⟨h0,q,h1,h2⟩:=hr;exact⟨h0,q,zfk h h1,h2⟩
 . rename_i hs0;rw[if_neg hs0];exact zvf h hr
theorem zpp(h:EvLe a b){sz:Nat}{ops:List Oper}:∀ {l:List Oper} {id:Nat} {T:PT V} {hs:HS} {acc:List (List Nat×List Nat)} {r:(PT V×HS)×List (List Nat×List Nat)},
 zct E a sz ops l id T hs acc=some r->zct E b sz ops l id T hs acc=some r:=by
 intro l
 induction l with
 |nil=>intro id T hs acc r hr;exact hr
 | cons o l ih =>
   intro id T hs acc r hr;replace hr:(ob (zaC E a ops o id (zam T (looks ops o)) hs) fun r=>ob (zmw sz T o.dst r.1) fun T'=>zct E a sz ops l (id+1) T' r.2.1 (zbB acc [r.2.2]))=some r:=hr;show (ob (zaC E b ops o id (zam T (looks ops o)) hs) fun r=>ob (zmw sz T o.dst r.1) fun T'=>zct E b sz ops l (id+1) T' r.2.1 (zbB acc [r.2.2]))=some r;simp only[zt]at hr ⊢;obtain⟨q,h1,T',h2,h3⟩:=hr;refine⟨q,?_,T',h2,ih h3⟩;simp only[zaC,zt]at h1 ⊢;obtain⟨w,h4,h5⟩:=h1;refine⟨w,h4,?_⟩;rw[za0]at h5 ⊢;split at h5
   . rename_i hw;rw[if_pos hw];exact zpJ h h5
   . rename_i hw;rw[if_neg hw];exact h5
theorem z7X(h:EvLe a b){sz:Nat}{l:List Oper}{draw:Bool}{r:Ex×PT V×HS}(hr:z7Y E a sz l draw T hs=some r):z7Y E b sz l draw T hs=some r:=by
 simp only[z7Y,zt]at hr ⊢;obtain⟨q,h1,h2⟩:=hr;refine⟨q,?_,h2⟩;rw[za0]at h1 ⊢;split at h1
 . rename_i hd;rw[if_pos hd];simp only[zlY,zt,z8]at h1 ⊢;obtain⟨bs,h3,p,h4,h5⟩:=h1;exact⟨bs,h3,p,zpp h h4,h5⟩
 . rename_i hd;rw[if_neg hd];exact ziT h h1
theorem zqU(h:EvLe a b){rd:Bool}{sz:Nat}{c:Code}{q r:Ex×PT V×HS}(hr:zmv a rd sz c q=some r):zmv b rd sz c q=some r:=by
 unfold zmv at hr ⊢
 cases hq:q.1 with
 |normal=>rw[hq]at hr;exact h.code hr
 |ret=>rw[hq]at hr;exact hr
 |exit i=>rw[hq]at hr;exact hr
theorem zyj(h:EvLe a b){rd:Bool}{sz:Nat}{c:Code}{r:Ex×PT V×HS}(hr:zmi E a rd sz c T hs=some r):zmi E b rd sz c T hs=some r:=by
 cases c<;>simp only[zmi]at hr ⊢<;>first|exact hr|exact z7X h hr|skip
 case seq x y =>
  simp only[zt]at hr ⊢;obtain⟨q,h1,h2⟩:=hr;exact⟨q,h.code h1,zqU h h2⟩
 case cond q x y =>
  simp only[zt]at hr ⊢;obtain⟨v,h1,t,h2,h3⟩:=hr;refine⟨v,h1,t,h2,?_⟩;rw[za0]at h3 ⊢;split at h3
  . rename_i hw;rw[if_pos hw];exact h.code h3
  . rename_i hw;rw[if_neg hw];exact h.code h3
 case block id body =>
  simp only[zt]at hr ⊢;obtain⟨q,h1,h2⟩:=hr;exact⟨q,h.code h1,h2⟩
 case loop body =>
  simp only[zt]at hr ⊢;obtain⟨q,h1,h2⟩:=hr;exact⟨q,h.code h1,zqU h h2⟩
 case rangeFunc g ps assign body =>
  simp only[z8,zt,zhy]at hr ⊢;obtain⟨h1,v,h2,p,h3,h4,q,h5,h6⟩:=hr;exact⟨h1,v,h2,p,h3,h4,q,h.call h5,h6⟩
theorem zyy(h:EvLe a b){f:FuncId}{vs:List V}{r:V×HS}(hr:ziF E a f vs hs=some r):ziF E b f vs hs=some r:=by
 simp only[ziF,zt]at hr ⊢;obtain⟨fn,h1,c,h2,T,h3,q,h4,h5⟩:=hr;exact⟨fn,h1,c,h2,T,h3,q,h.code h4,h5⟩
theorem zo9(E:Env):∀ n,EvLe (evJ E n) (evJ E (n+1)):=by
 intro n
 induction n with
 |zero=>exact⟨fun h=>(by cases h),fun h=>(by cases h)⟩
 |succ n ih=>exact⟨fun h=>zyj ih h,fun h=>zyy ih h⟩
theorem zgw(E:Env){m n:Nat}(h:m<=n):EvLe (evJ E m) (evJ E n):=by
 induction h with
 |refl=>exact⟨fun h=>h,fun h=>h⟩
 |step _ ih=>exact⟨fun h=>(zo9 E _).code (ih.code h),fun h=>(zo9 E _).call (ih.call h)⟩
end
end Go.J
/- Symbolic runs of the evaluator: a small calculus. -/
namespace Go.J
def ok{α:Type}(x:Option α)(K:α->Prop):Prop:=∃ a,x=some a/\K a
theorem zF{α:Type}(a:α)(K:α->Prop):ok (some a) K=K a:=propext ⟨fun ⟨b,h,k⟩=>by cases h;exact k,fun k=>⟨a,rfl,k⟩⟩
theorem zak{α β:Type}(x:Option α)(f:α->Option β)(K:β->Prop):ok (ob x f) K=ok x fun a=>ok (f a) K:=by
 cases x with
 |none=>exact propext ⟨fun ⟨b,h,_⟩=>(by cases h),fun ⟨b,h,_⟩=>(by cases h)⟩
 |some a=>rw[zN,zF]
theorem zbX{α:Type}(c:Bool)(x:Option α)(K:α->Prop):ok (gd c x) K=(c=true/\ok x K):=by
 cases c with
 |true=>rw[zbA];simp
 |false=>rw[zot];exact propext ⟨fun ⟨b,h,_⟩=>(by cases h),fun ⟨h,_⟩=>(by cases h)⟩
theorem zcv{α:Type}{x:Option α}{K K':α->Prop}(h:ok x K)(hk:∀ a,K a->K' a):ok x K':=let ⟨a,h1,h2⟩:=h;⟨a,h1,hk a h2⟩
def br(c A B:Prop):Prop:=(c->A)/\(¬ c->B)
theorem z9T(c:Prop) [Decidable c](A B:Prop):br c A B=if c then A else B:=by
 by_cases h:c<;>simp[br,h]
theorem zvw(A B:Prop):br True A B=A:=by simp[br]
theorem zoI(A B:Prop):br False A B=B:=by simp[br]
section
variable {E:Env}{rd:Bool}{sz:Nat}{T:PT V}{hs:HS}{Q:Ex->PT V->HS->Prop}
def Jc(E:Env)(rd:Bool)(sz:Nat)(c:Code)(T:PT V)(hs:HS)(Q:Ex->PT V->HS->Prop):Prop :=
 ∃ n ex T' hs',(evJ E n).code rd sz c T hs=some (ex,T',hs')/\Q ex T' hs'
def Ex.then(K:PT V->HS->Prop)(Q:Ex->PT V->HS->Prop):Ex->PT V->HS->Prop
 |.normal,T,hs=>K T hs
 |.ret,T,hs=>Q .ret T hs
 |.exit i,T,hs=>Q (.exit i) T hs
def Ex.inBlock(id:Nat)(Q:Ex->PT V->HS->Prop):Ex->PT V->HS->Prop
 |.normal,T,hs=>Q .normal T hs
 |.ret,T,hs=>Q .ret T hs
 |.exit i,T,hs=>if i=id then Q .normal T hs else Q (.exit i) T hs
theorem zir{c:Code}{Q':Ex->PT V->HS->Prop}(h:Jc E rd sz c T hs Q)(hq:∀ e T hs,Q e T hs->Q' e T hs):Jc E rd sz c T hs Q' :=
 let ⟨n,e,T',hs',h1,h2⟩:=h;⟨n,e,T',hs',h1,hq _ _ _ h2⟩
theorem zAn(h:Q .normal T hs):Jc E rd sz .skip T hs Q:=⟨1,_,_,_,rfl,h⟩
theorem zAp{id:Nat}(h:Q (.exit id) T hs):Jc E rd sz (.exit id) T hs Q:=⟨1,_,_,_,rfl,h⟩
theorem zHh(h:Q .ret T hs):Jc E rd sz .ret T hs Q:=⟨1,_,_,_,rfl,h⟩
theorem zHg{a b:Code}(h:Jc E rd sz a T hs (Ex.then (fun T hs=>Jc E rd sz b T hs Q) Q)):Jc E rd sz (.seq a b) T hs Q:=by
 obtain⟨n,e,T1,hs1,h1,h2⟩:=h
 cases e with
 | normal =>
   obtain⟨m,e2,T2,hs2,h3,h4⟩:=h2;refine⟨max n m+1,e2,T2,hs2,?_,h4⟩;show (ob ((evJ E (max n m)).code rd sz a T hs) fun r=>zmv (evJ E (max n m)) rd sz b r)=_;rw[(zgw E (Nat.le_max_left n m)).code h1,zN];exact(zgw E (Nat.le_max_right n m)).code h3
 |ret=>exact⟨n+1,.ret,T1,hs1,by show (ob ((evJ E n).code rd sz a T hs) fun r=>zmv (evJ E n) rd sz b r)=_;rw[h1,zN];rfl,h2⟩
 |exit i=>exact⟨n+1,.exit i,T1,hs1,by show (ob ((evJ E n).code rd sz a T hs) fun r=>zmv (evJ E n) rd sz b r)=_;rw[h1,zN];rfl,h2⟩
theorem zAo{c:Code}(h:Jc E rd sz c T hs (Ex.then (fun T hs=>Jc E rd sz (.loop c) T hs Q) Q)):Jc E rd sz (.loop c) T hs Q:=by
 obtain⟨n,e,T1,hs1,h1,h2⟩:=h
 cases e with
 | normal =>
   obtain⟨m,e2,T2,hs2,h3,h4⟩:=h2;refine⟨max n m+1,e2,T2,hs2,?_,h4⟩;show (ob ((evJ E (max n m)).code rd sz c T hs) fun r=>zmv (evJ E (max n m)) rd sz (.loop c) r)=_;rw[(zgw E (Nat.le_max_left n m)).code h1,zN];exact(zgw E (Nat.le_max_right n m)).code h3
 |ret=>exact⟨n+1,.ret,T1,hs1,by show (ob ((evJ E n).code rd sz c T hs) fun r=>zmv (evJ E n) rd sz (.loop c) r)=_;rw[h1,zN];rfl,h2⟩
 |exit i=>exact⟨n+1,.exit i,T1,hs1,by show (ob ((evJ E n).code rd sz c T hs) fun r=>zmv (evJ E n) rd sz (.loop c) r)=_;rw[h1,zN];rfl,h2⟩
theorem zAq{q:Operand}{a b:Code}{t:Bool}(hq:zC T q=some (.bool t))(h1:t=true->Jc E rd sz a T hs Q)(h2:t=false->Jc E rd sz b T hs Q):Jc E rd sz (.cond q a b) T hs Q:=by
 have key:∀ n,(evJ E (n+1)).code rd sz (.cond q a b) T hs=bi t ((evJ E n).code rd sz a T hs) ((evJ E n).code rd sz b T hs):=by
  intro n;show (ob (zC T q) fun v=>ob v.bool? fun t=>bi t ((evJ E n).code rd sz a T hs) ((evJ E n).code rd sz b T hs))=_;rw[hq];rfl
 cases t with
 | true =>
   obtain⟨n,e,T1,hs1,h3,h4⟩:=h1 rfl;exact⟨n+1,e,T1,hs1,by rw[key];exact h3,h4⟩
 | false =>
   obtain⟨n,e,T1,hs1,h3,h4⟩:=h2 rfl;exact⟨n+1,e,T1,hs1,by rw[key];exact h3,h4⟩
theorem zyE{id:Nat}{c:Code}(h:Jc E rd sz c T hs (Ex.inBlock id Q)):Jc E rd sz (.block id c) T hs Q:=by
 obtain⟨n,e,T1,hs1,h1,h2⟩:=h
 have key:(evJ E (n+1)).code rd sz (.block id c) T hs=zmm id (e,T1,hs1):=by
  show (ob ((evJ E n).code rd sz c T hs) fun r=>zmm id r)=_;rw[h1];rfl
 cases e with
 |normal=>exact⟨n+1,_,_,_,key,h2⟩
 |ret=>exact⟨n+1,_,_,_,key,h2⟩
 | exit i =>
   by_cases hi:i=id
   . refine⟨n+1,.normal,T1,hs1,?_,by simpa [Ex.inBlock,hi]using h2⟩;rw[key];show bi (Nat.beq i id) _ _=_;rw[za0,if_pos (beq_true.2 hi)]
   . refine⟨n+1,.exit i,T1,hs1,?_,by simpa [Ex.inBlock,hi]using h2⟩;rw[key];show bi (Nat.beq i id) _ _=_;rw[za0,if_neg (fun h=>hi (beq_true.1 h))]
def Ro(E:Env)(sz:Nat)(ops l:List Oper)(id:Nat)(T:PT V)(hs:HS)(Q:PT V->HS->Prop):Prop:=∃ n T' hs',zbW E (evJ E n) sz ops l id T hs=some (T',hs')/\Q T' hs'
theorem zmr{id:Nat}{ops:List Oper}(h:Ro E sz ops ops hs.n T { H:=hs.H,n:=hs.n+ops.length,log:=hs.log } fun T hs=>Q .normal T hs):Jc E rd sz (.region id ops.toArray false) T hs Q:=by
 obtain⟨n,T1,hs1,h1,h2⟩:=h;refine⟨n+1,.normal,T1,hs1,?_,h2⟩;show (ob (bi false _ (zbW E (evJ E n) sz ops ops hs.n T { H:=hs.H,n:=hs.n+zS ops,log:=hs.log })) fun r=>some (Ex.normal,r.1,r.2))=_;rw[zX,zO,h1];rfl
variable {ops l:List Oper}{id:Nat}{R:PT V->HS->Prop}
theorem zHa:Ro E sz ops [] id T hs R=R T hs:=propext ⟨fun ⟨_,_,_,h1,h2⟩=>by cases h1;exact h2,fun h=>⟨0,T,hs,rfl,h⟩⟩
theorem znC{o:Oper}(h:∃ n r,zcy E (evJ E n) sz ops o id T hs=some r/\Ro E sz ops l (id+1) r.1 r.2 R):Ro E sz ops (o::l) id T hs R:=by
 obtain⟨n,⟨T1,hs1⟩,h1,m,T2,hs2,h2,h3⟩:=h;refine⟨max n m,T2,hs2,?_,h3⟩;show (ob (zcy E (evJ E (max n m)) sz ops o id T hs) fun r=>zbW E (evJ E (max n m)) sz ops l (id+1) r.1 r.2)=_;rw[zl6 (zgw E (Nat.le_max_left n m)) h1,zN];exact ziT (zgw E (Nat.le_max_right n m)) h2
def put(sz:Nat)(T:PT V)(d:Option Tmp)(v:V)(K:PT V->Prop):Prop :=
 match d with
 |none=>K T
 |some d=>d<sz/\K (T.set d v)
theorem zmQ{d:Option Tmp}{v:V}{K:PT V->Prop}(h:put sz T d v K):∃ T',zmw sz T d v=some T'/\K T':=by
 cases d with
 |none=>exact⟨T,rfl,h⟩
 |some d=>exact⟨T.set d v,by show gd (Nat.blt d sz) _=_;rw[blt_true.2 h.1];rfl,h.2⟩
end
theorem zwU{E:Env}{f:FuncId}{fn:Func}{c:Code}{vs:List V}{hs:HS}{T:PT V}{K:V->HS->Prop}(hf:E.P.funcs[f]?=some fn)(hb:fn.body=some c)(he:zbu fn.ntmps vs 0 .leaf=some T)
 (h:Jc E false fn.ntmps c T hs fun ex T' hs'=>(∀ i,ex≠.exit i)/\ok (znY E.P T' hs' fn.results.toList) fun l=>K (zcT l) hs'):∃ n v hs',(evJ E n).call f vs hs=some (v,hs')/\K v hs':=by
 obtain⟨n,ex,T',hs',h1,h2,l,h3,h4⟩:=h;refine⟨n+1,zcT l,hs',?_,h4⟩;show (ob (E.P.funcs[f]?) fun fn=>ob fn.body fun c=>ob (zbu fn.ntmps vs 0 .leaf) fun T=>ob ((evJ E n).code false fn.ntmps c T hs) fun r=>zl0 E.P fn r)=_;rw[hf,zN,hb,zN,he,zN,h1,zN];unfold zl0
 cases ex with
 |exit i=>exact absurd rfl (h2 i)
 |normal=>dsimp only;rw[h3];rfl
 |ret=>dsimp only;rw[h3];rfl
end Go.J
/- Code without what the evaluator does not look at;symbolic runs of it. -/
namespace Go.J
structure SOp where
 d:Option Tmp
 op:Op
 g:Option (Tmp×Bool)
structure SD where
 d:Option Tmp
 op:Op
 g:Option (Tmp×Bool)
 lk:List Nat
inductive SC where
 |draw (l:List SD) (bs:List Nat)
 |skip|ret
 |exit (id:Nat)
 |reg (l:List SOp)
 |seq (a b:SC)
 |cond (q:Operand) (a b:SC)
 |block (id:Nat) (a:SC)
 |loop (a:SC)
 |range (g:Operand) (ps:Array Tmp) (a b:SC)
def zgZ (ops:List Oper):Option (Nat×Bool)->Option (Option (Tmp×Bool))
 |none=>some none
 | some (j,w)=>match ops[j]? with
   | some p=>match p.dst with
     |some d=>some (some (d,w))
     |none=>none
   |none=>none
def stripL (ops:List Oper):List Oper->Option (List SOp)
 | []=>some []
 | o::l=>match zgZ ops o.guard,stripL ops l with
   |some g,some r=>some (⟨o.dst,o.op,g⟩::r)
   |_,_=>none
def zha (ops:List Oper):List Oper->Option (List SD)
 | []=>some []
 | o::l=>match zgZ ops o.guard,zha ops l with
   |some g,some r=>some (⟨o.dst,o.op,g,looks ops o⟩::r)
   |_,_=>none
def zz:Code->Option SC
 | .region _ ops true=>match zha ops.toList ops.toList,zlX ops.toList with
   |some l,some bs=>some (.draw l bs)
   |_,_=>none
 |.skip=>some .skip
 |.ret=>some .ret
 |.exit i=>some (.exit i)
 | .region _ ops false=>match stripL ops.toList ops.toList with
   |some l=>some (.reg l)
   |none=>none
 | .seq a b=>match zz a,zz b with
   |some a,some b=>some (.seq a b)
   |_,_=>none
 | .cond q a b=>match zz a,zz b with
   |some a,some b=>some (.cond q a b)
   |_,_=>none
 | .block i a=>match zz a with
   |some a=>some (.block i a)
   |none=>none
 | .loop a=>match zz a with
   |some a=>some (.loop a)
   |none=>none
 | .rangeFunc g ps a b=>match zz a,zz b with
   |some a,some b=>some (.range g ps a b)
   |_,_=>none
 |_=>none
section
variable {E:Env}{rd:Bool}{sz:Nat}{T:PT V}{hs:HS}{Q:Ex->PT V->HS->Prop}
def V.guard? (v:V)(w:Bool):Option Bool:=match v with
 |.bool b=>some b
 |.tuple []=>some (!w)
 |_=>none
def V.wantB(v:V)(w:Bool):Option Bool:=match v with
 |.bool b=>some (zdz b w)
 |.tuple []=>some false
 |_=>none
theorem V.guard?_want {v:V}{w q:Bool}(h:v.guard? w=some q):v.wantB w=some (zdz q w):=by
 unfold V.guard? at h;split at h
 . cases h;rfl
 . cases h;cases w<;>rfl
 . cases h
def wpO (E:Env) (id:Nat) (T:PT V) (hs:HS) (op:Op) (K:V->HS->Prop):Prop :=
 match op with
 | .call c=>match c.callee with
   |.builtin b=>(zM op≠0->hs.H.get id=none)/\ok (zaL T c.args.toList) fun vs=>ok (zb6 E.P hs id b c.argTypes.toList vs) fun r=>K r.1 r.2
   |.value x=>hs.H.get id=none/\ok (zC T x) fun v=>ok (funcOf v) fun p=>ok (zaL T c.args.toList) fun vs=>ok (E.con p.1 (zbB vs p.2) hs) fun r=>K r.1 r.2
   |.invoke _ _=>False
 |op=>(zM op≠0->hs.H.get id=none)/\ok (opJ E.P false T hs id (opR op)) fun r=>K r.1 r.2
def wpS(E:Env)(id:Nat)(T:PT V)(hs:HS)(s:SOp)(K:V->HS->Prop):Prop :=
 match s.g with
 |none=>wpO E id T hs s.op K
 |some (t,w)=>ok (T.get t) fun v=>ok (v.guard? w) fun q=>if q=w then wpO E id T hs s.op K else K undefV hs
def Rs(E:Env)(sz:Nat):List SOp->Nat->PT V->HS->(PT V->HS->Prop)->Prop
 | [],_,T,hs,R=>R T hs
 |s::l,id,T,hs,R=>wpS E id T hs s fun v hs'=>put sz T s.d v fun T1=>Rs E sz l (id+1) T1 hs' R
theorem zwf {id:Nat} {op:Op} {K:V->HS->Prop} (h:wpO E id T hs op K):(zM op≠0->hs.H.get id=none) /\
 ((zbI op=none/\ok (opJ E.P false T hs id (opR op)) fun r=>K r.1 r.2)\/(∃ c,zbI op=some c/\ok (zaL T c.args.toList) fun vs =>
   (∃ b,c.callee=.builtin b/\ok (zb6 E.P hs id b c.argTypes.toList vs) fun r=>K r.1 r.2)\/∃ x f caps,c.callee=.value x/\zC T x=some (.func f caps)/\ok (E.con f (zbB vs caps) hs) fun r=>K r.1 r.2)):=by
 unfold wpO at h;split at h
 . rename_i c;split at h
   . rename_i b hb;exact⟨h.1,.inr ⟨c,rfl,zcv h.2 fun vs hv=>.inl ⟨b,hb,hv⟩⟩⟩
   . rename_i x hx;obtain⟨h1,v,hv,p,hp,vs,hvs,h2⟩:=h;obtain⟨f,caps⟩:=p
     have e:v=.func f caps:=by
      unfold funcOf at hp;split at hp
      . cases hp;rfl
      . cases hp
     subst e;exact⟨fun _=>h1,.inr ⟨c,rfl,vs,hvs,.inr ⟨x,f,caps,hx,hv,h2⟩⟩⟩
   . exact h.elim
 . rename_i hne;refine⟨h.1,.inl ⟨?_,h.2⟩⟩;cases op<;>first|rfl|exact absurd rfl (hne _)
theorem z7F {ops:List Oper} {id:Nat} {o:Oper} {n:Nat} {K:PT V->HS->Prop} {q:Bool} (hw:zdg ops T o=some q)
 (h:if q=true then wpO E id T hs o.op (fun v hs'=>put sz T o.dst v fun T1=>K T1 hs')else put sz T o.dst undefV fun T1=>K T1 hs) :
 ∃ r,zcy E (evJ E n) sz ops o id T hs=some r/\K r.1 r.2:=by
 cases q with
 | false =>
   rw[if_neg (by simp)]at h;obtain⟨T1,h4,h5⟩:=zmQ h;refine⟨(T1,hs),?_,h5⟩;show (ob (zdg ops T o) fun w=>bi w _ _)=_;rw[hw,zN,zX,h4];rfl
 | true =>
   rw[if_pos rfl]at h;obtain⟨h1,h2⟩:=zwf h
   have hv:bi (Nat.beq (zM o.op) 0) true (zZ hs id)=true:=by
    rw[za0];split
    . rfl
    . rename_i hne;exact vacant_eq.2 (h1 fun e=>hne (beq_true.2 e))
   have fin:∀ r:V×HS,stepJ E (evJ E n) false T hs id o=some r->(put sz T o.dst r.1 fun T1=>K T1 r.2)->∃ r,zcy E (evJ E n) sz ops o id T hs=some r/\K r.1 r.2:=by
    intro r hst hp;obtain⟨T1,h4,h5⟩:=zmQ hp;refine⟨(T1,r.2),?_,h5⟩;show (ob (zdg ops T o) fun w=>bi w _ _)=_;rw[hw,zN,zaf,hv,zbA,hst,zN,h4];rfl
   rcases h2 with⟨hc,r,h2,h3⟩|⟨c,hc,vs,hvs,h2⟩
   . exact fin r (by unfold stepJ;rw[hc];exact h2) h3
   . rcases h2 with⟨b,hb,r,h2,h3⟩|⟨x,f,caps,hx,hxv,r,h2,h3⟩
     . refine fin r ?_ h3;unfold stepJ;rw[hc];show (ob (zaL T c.args.toList) fun vs=>_)=_;rw[hvs,zN,hb];exact h2
     . refine fin r ?_ h3;unfold stepJ;rw[hc];show (ob (zaL T c.args.toList) fun vs=>_)=_;rw[hvs,zN,hx];show (ob (zC T x) fun v=>zgS E (evJ E n) v vs hs)=_;rw[hxv,zN];show zfG E (evJ E n) f (zbB vs caps) hs=some r;unfold zfG;rw[h2,za8]
theorem zAd {ops:List Oper}:∀ {l:List Oper} {s:List SOp} {id:Nat} {T:PT V} {hs:HS} {R:PT V->HS->Prop},stripL ops l=some s->Rs E sz s id T hs R->Ro E sz ops l id T hs R:=by
 intro l
 induction l with
 | nil =>
   intro s id T hs R h hr;cases h;rw[zHa];exact hr
 | cons o l ih =>
   intro s id T hs R h hr;unfold stripL at h;split at h
   . rename_i g r hg hl;cases h;have hr':wpS E id T hs ⟨o.dst,o.op,g⟩ fun v hs'=>put sz T o.dst v fun T1=>Rs E sz r (id+1) T1 hs' R:=hr
     unfold wpS at hr'
     have hst:∃ q,zdg ops T o=some q/\(if q=true then wpO E id T hs o.op (fun v hs'=>put sz T o.dst v fun T1=>Rs E sz r (id+1) T1 hs' R)else put sz T o.dst undefV fun T1=>Rs E sz r (id+1) T1 hs R):=by
      unfold zgZ at hg;split at hg
      . rename_i hgn;cases hg;refine⟨true,?_,by rw[if_pos rfl];exact hr'⟩;unfold zdg;rw[hgn];rfl
      . rename_i j w hgn;split at hg
        . rename_i p hp;split at hg
          . rename_i d hd;cases hg;obtain⟨v,hv,q,hq,h2⟩:=hr';refine⟨zdz q w,?_,?_⟩
            . unfold zdg;rw[hgn,za8];show (ob (zeQ ops j) fun p=>_)=_;rw[zbY,hp,zN,hd,zN,hv,zN];exact V.guard?_want hq
            . by_cases e:q=w
              . rw[if_pos e]at h2;rw[if_pos (by rw[e];cases w<;>rfl)];exact h2
              . rw[if_neg e]at h2;rw[if_neg (by revert e;cases w<;>cases q<;>simp[zdz,bi,nt])];exact h2
          . cases hg
        . cases hg
     obtain⟨q,hw,h3⟩:=hst;obtain⟨r1,h4,h5⟩:=z7F (n:=0) hw h3;exact znC ⟨0,r1,h4,ih hl h5⟩
   . cases h
def Js(E:Env)(rd:Bool)(sz:Nat)(s:SC)(T:PT V)(hs:HS)(Q:Ex->PT V->HS->Prop):Prop:=∀ c,zz c=some s->Jc E rd sz c T hs Q
theorem zAl{s:SC}{Q':Ex->PT V->HS->Prop}(h:Js E rd sz s T hs Q)(hq:∀ e T hs,Q e T hs->Q' e T hs):Js E rd sz s T hs Q':=fun c hc=>zir (h c hc) hq
theorem zae{c:Code}{s:SC}(h:zz c=some s):match s with
 |.draw l bs=>∃ id ops,c=.region id ops true/\zha ops.toList ops.toList=some l/\zlX ops.toList=some bs
 |.skip=>c=.skip
 |.ret=>c=.ret
 |.exit i=>c=.exit i
 |.reg l=>∃ id ops,c=.region id ops false/\stripL ops.toList ops.toList=some l
 |.seq a b=>∃ x y,c=.seq x y/\zz x=some a/\zz y=some b
 |.cond q a b=>∃ x y,c=.cond q x y/\zz x=some a/\zz y=some b
 |.block i a=>∃ x,c=.block i x/\zz x=some a
 |.loop a=>∃ x,c=.loop x/\zz x=some a
 |.range g ps a b=>∃ x y,c=.rangeFunc g ps x y/\zz x=some a/\zz y=some b:=by
 cases c with
 |skip=>cases h;rfl
 |ret=>cases h;rfl
 |exit i=>cases h;rfl
 | region id ops draw =>
   cases draw with
   | true =>
     unfold zz at h;split at h
     . rename_i l bs hl hb;cases h;exact⟨id,ops,rfl,hl,hb⟩
     . cases h
   | false =>
     unfold zz at h;split at h
     . rename_i l hl;cases h;exact⟨id,ops,rfl,hl⟩
     . cases h
 | seq x y =>
   unfold zz at h;split at h
   . rename_i a b ha hb;cases h;exact⟨x,y,rfl,ha,hb⟩
   . cases h
 | cond q x y =>
   unfold zz at h;split at h
   . rename_i a b ha hb;cases h;exact⟨x,y,rfl,ha,hb⟩
   . cases h
 | block i x =>
   unfold zz at h;split at h
   . rename_i a ha;cases h;exact⟨x,rfl,ha⟩
   . cases h
 | rangeFunc g ps x y =>
   unfold zz at h;split at h
   . rename_i a b ha hb;cases h;exact⟨x,y,rfl,ha,hb⟩
   . cases h
 | loop x =>
   unfold zz at h;split at h
   . rename_i a ha;cases h;exact⟨x,rfl,ha⟩
   . cases h
 |_=>cases h
theorem znD(h:Q .normal T hs):Js E rd sz .skip T hs Q:=fun c hc=>by have e:c=.skip:=zae hc;rw[e];exact zAn h
theorem zHf(h:Q .ret T hs):Js E rd sz .ret T hs Q:=fun c hc=>by have e:c=.ret:=zae hc;rw[e];exact zHh h
theorem zvG{i:Nat}(h:Q (.exit i) T hs):Js E rd sz (.exit i) T hs Q:=fun c hc=>by have e:c=.exit i:=zae hc;rw[e];exact zAp h
theorem zgx{a b:SC}(h:Js E rd sz a T hs (Ex.then (fun T hs=>Js E rd sz b T hs Q) Q)):Js E rd sz (.seq a b) T hs Q:=fun c hc=>by
 obtain⟨x,y,rfl,hx,hy⟩:=zae hc;refine zHg (zir (h x hx) fun e T hs he=>?_)
 cases e with
 |normal=>exact he y hy
 |ret=>exact he
 |exit i=>exact he
theorem zku{q:Operand}{a b:SC}{t:Bool}(hq:zC T q=some (.bool t))(h1:t=true->Js E rd sz a T hs Q)(h2:t=false->Js E rd sz b T hs Q):Js E rd sz (.cond q a b) T hs Q:=fun c hc=>by
 obtain⟨x,y,rfl,hx,hy⟩:=zae hc;exact zAq hq (fun h=>h1 h x hx) (fun h=>h2 h y hy)
theorem zkv{id:Nat}{a:SC}(h:Js E rd sz a T hs (Ex.inBlock id Q)):Js E rd sz (.block id a) T hs Q:=fun c hc=>by
 obtain⟨x,rfl,hx⟩:=zae hc;exact zyE (h x hx)
theorem zvF{a:SC}(h:Js E rd sz a T hs (Ex.then (fun T hs=>Js E rd sz (.loop a) T hs Q) Q)):Js E rd sz (.loop a) T hs Q:=fun c hc=>by
 obtain⟨x,rfl,hx⟩:=zae hc;refine zAo (zir (h x hx) fun e T hs he=>?_)
 cases e with
 |normal=>exact he _ hc
 |ret=>exact he
 |exit i=>exact he
theorem zjy{l:List SOp}(h:Rs E sz l hs.n T { H:=hs.H,n:=hs.n+l.length,log:=hs.log } fun T hs=>Q .normal T hs):Js E rd sz (.reg l) T hs Q:=fun c hc=>by
 obtain⟨id,ops,rfl,hl⟩:=zae hc
 have hlen:∀ {m:List Oper} {s:List SOp},stripL ops.toList m=some s->s.length=m.length:=by
  intro m
  induction m with
  |nil=>intro s h;cases h;rfl
  | cons o m ih =>
    intro s h;unfold stripL at h;split at h
    . rename_i g r hg hr;cases h;simp[ih hr]
    . cases h
 rw[hlen hl]at h;have:=zmr (id:=id) (rd:=rd) (Q:=Q) (zAd hl h);simpa using this
end
section
variable {E:Env}{rd:Bool}{sz:Nat}{T:PT V}{hs:HS}{Q:Ex->PT V->HS->Prop}
def zC6 (E:Env) (id:Nat) (T:PT V) (hs:HS) (op:Op) (K:V->HS->List Nat×List Nat->Prop):Prop :=
 match zM op with
 | 0 => match op with
   | .call c=>match c.callee with
     |.builtin b=>ok (zaL T c.args.toList) fun vs=>ok (zb6 E.P { H:=zam hs.H (readsOf T op),n:=0,log:=[] } id b c.argTypes.toList vs) fun r=>K r.1 hs (readsOf T op,[])
     |_=>False
   |op=>ok (opJ E.P true T { H:=zam hs.H (readsOf T op),n:=0,log:=[] } id (opR op)) fun r=>K r.1 hs (readsOf T op,[])
 | 1=>hs.H.get id=none/\ok (opJ E.P true T { H:=.leaf,n:=0,log:=[] } id (opR op)) fun r=>ok (r.2.H.get id) fun o'=>o'.fz=false/\K r.1 (hs.put id o') ([id],[])
 | _ => hs.H.get id=none/\(match op with
   | .call c=>match c.callee with
     |.builtin b=>ok (zaL T c.args.toList) fun vs=>ok (zb6 E.P { H:=hs.H,n:=hs.n,log:=[] } id b c.argTypes.toList vs) fun r=>K r.1 { H:=r.2.H,n:=r.2.n,log:=zbB r.2.log hs.log } ([],r.2.log)
     |.value x=>ok (zC T x) fun v=>ok (funcOf v) fun p=>ok (zaL T c.args.toList) fun vs=>ok (E.con p.1 (zbB vs p.2) { H:=hs.H,n:=hs.n,log:=[] }) fun r=>K r.1 { H:=r.2.H,n:=r.2.n,log:=zbB r.2.log hs.log } ([],r.2.log)
     |.invoke _ _=>False
   |op=>ok (opJ E.P true T { H:=hs.H,n:=hs.n,log:=[] } id (opR op)) fun r=>K r.1 { H:=r.2.H,n:=r.2.n,log:=zbB r.2.log hs.log } ([],r.2.log))
def wpD(E:Env)(id:Nat)(T:PT V)(hs:HS)(op:Op)(K:V->HS->List Nat×List Nat->Prop):Prop :=
 match op with
 |.store t a x=>hs.H.get id=none/\ok (zaX E.P T { H:=zam hs.H (zbQ T hs (.store t a x)),n:=0,log:=[] } t a x) fun r=>K r.1 { H:=zlc hs.H r.2.H (zbQ T hs (.store t a x)),n:=hs.n,log:=zbB r.2.log hs.log } (zbQ T hs (.store t a x),r.2.log)
 |op=>zC6 E id T hs op K
def z6V(E:Env)(id:Nat)(T:PT V)(hs:HS)(s:SD)(K:V->HS->List Nat×List Nat->Prop):Prop :=
 match s.g with
 |none=>wpD E id T hs s.op K
 |some (t,w)=>ok (T.get t) fun v=>ok (v.guard? w) fun q=>if q=w then wpD E id T hs s.op K else K undefV hs ([],[])
def Rd(E:Env)(sz:Nat):List SD->Nat->PT V->HS->List (List Nat×List Nat)->(PT V->HS->List (List Nat×List Nat)->Prop)->Prop
 | [],_,T,hs,acc,R=>R T hs acc
 |s::l,id,T,hs,acc,R=>z6V E id (zam T s.lk) hs s fun v hs' rw=>put sz T s.d v fun T1=>Rd E sz l (id+1) T1 hs' (zbB acc [rw]) R
theorem zwg {id:Nat} {o:Oper} {n:Nat} {K:V->HS->List Nat×List Nat->Prop} (h:zC6 E id T hs o.op K):∃ r,zdx E (evJ E n) o id T hs=some r/\K r.1 r.2.1 r.2.2:=by
 unfold zC6 at h
 have hcall:∀ {hs0:HS} {c:Call} {b:Builtin} {vs:List V} {r:V×HS},zbI o.op=some c->c.callee=.builtin b->zaL T c.args.toList=some vs->zb6 E.P hs0 id b c.argTypes.toList vs=some r->stepJ E (evJ E n) true T hs0 id o=some r:=by
  intro hs0 c b vs r h1 h2 h3 h4;unfold stepJ;rw[h1];show (ob (zaL T c.args.toList) fun vs=>_)=_;rw[h3,zN,h2];exact h4
 have hop:∀ {hs0:HS} {r:V×HS},zbI o.op=none->opJ E.P true T hs0 id (opR o.op)=some r->stepJ E (evJ E n) true T hs0 id o=some r:=by
  intro hs0 r h1 h2;unfold stepJ;rw[h1];exact h2
 have hnone:∀ {op:Op},(∀ c,op≠.call c)->zbI op=none:=by
  intro op h;cases op<;>first|rfl|exact absurd rfl (h _)
 split at h
 . rename_i hc
   have key:∀ r:V×HS,stepJ E (evJ E n) true T { H:=zam hs.H (readsOf T o.op),n:=0,log:=[] } id o=some r->zdx E (evJ E n) o id T hs=some (r.1,hs,readsOf T o.op,[]):=by
    intro r hr;unfold zdx;rw[hc];show (ob (stepJ E (evJ E n) true T { H:=zam hs.H (readsOf T o.op),n:=0,log:=[] } id o) fun r=>some (r.1,hs,readsOf T o.op,[]))=_;rw[hr];rfl
   split at h
   . rename_i c hcc;split at h
     . rename_i b hb;obtain⟨vs,hvs,r,hr,hk⟩:=h;have hco:zbI o.op=some c:=by rw[hcc];rfl
       exact⟨_,key r (hcall hco hb hvs hr),hk⟩
     . exact h.elim
   . rename_i hne;obtain⟨r,hr,hk⟩:=h;exact⟨_,key r (hop (hnone hne) hr),hk⟩
 . rename_i hc;obtain⟨h0,r,hr,o',ho,hz,hk⟩:=h;refine⟨(r.1,hs.put id o',[id],[]),?_,hk⟩;unfold zdx;rw[hc];show (gd (zZ hs id) (ob (stepJ E (evJ E n) true T { H:=.leaf,n:=0,log:=[] } id o) fun r=>ob (r.2.H.get id) fun o'=>gd (nt o'.fz) (some (r.1,hs.put id o',[id],[]))))=_;rw[vacant_eq.2 h0,zbA,hop (zid hc) hr,zN,ho,zN,hz];rfl
 . rename_i hc0 hc1;obtain⟨h0,h⟩:=h
   have hc:zM o.op=2:=by
    rcases ziZ o.op with h|h|h
    . exact absurd h hc0
    . exact absurd h hc1
    . exact h
   have key:∀ r:V×HS,stepJ E (evJ E n) true T { H:=hs.H,n:=hs.n,log:=[] } id o=some r->zdx E (evJ E n) o id T hs=some (r.1,{ H:=r.2.H,n:=r.2.n,log:=zbB r.2.log hs.log },[],r.2.log):=by
    intro r hr;unfold zdx;rw[hc];show (gd (zZ hs id) (ob (stepJ E (evJ E n) true T { H:=hs.H,n:=hs.n,log:=[] } id o) fun r=>some (r.1,({ H:=r.2.H,n:=r.2.n,log:=zbB r.2.log hs.log }:HS),([]:List Nat),r.2.log)))=_;rw[vacant_eq.2 h0,zbA,hr];rfl
   split at h
   . rename_i c hcc;have hco:zbI o.op=some c:=by rw[hcc];rfl
     split at h
     . rename_i b hb;obtain⟨vs,hvs,r,hr,hk⟩:=h;exact⟨_,key r (hcall hco hb hvs hr),hk⟩
     . rename_i x hx;obtain⟨v,hv,p,hp,vs,hvs,r,hr,hk⟩:=h;obtain⟨f,caps⟩:=p
       have e:v=.func f caps:=by
        unfold funcOf at hp;split at hp
        . cases hp;rfl
        . cases hp
       subst e;refine⟨_,key r ?_,hk⟩;unfold stepJ;rw[hco];show (ob (zaL T c.args.toList) fun vs=>_)=_;rw[hvs,zN,hx];show (ob (zC T x) fun v=>zgS E (evJ E n) v vs _)=_;rw[hv,zN];show zfG E (evJ E n) f (zbB vs caps) _=some r;unfold zfG;rw[hr,za8]
     . exact h.elim
   . rename_i hne;obtain⟨r,hr,hk⟩:=h;exact⟨_,key r (hop (hnone hne) hr),hk⟩
theorem zqn{id:Nat}{o:Oper}{n:Nat}{K:V->HS->List Nat×List Nat->Prop}(h:wpD E id T hs o.op K):∃ r,zde E (evJ E n) o id T hs=some r/\K r.1 r.2.1 r.2.2:=by
 unfold wpD at h;unfold zde;split at h
 . rename_i t a x hop;obtain⟨h0,r,hr,hk⟩:=h;have hs0:zaN o.op=true:=by rw[hop];rfl
   rw[hs0,zaf];unfold zjq;rw[vacant_eq.2 h0,zbA,hop,zcH hop,hr,zN];exact⟨_,rfl,hk⟩
 . rename_i hne
   have hs0:zaN o.op=false:=by
    unfold zaN;split
    . rename_i t a x e;exact absurd e (hne t a x)
    . rfl
   rw[hs0,zX];exact zwg h
theorem zN9 {ops:List Oper} {n:Nat}:∀ {l:List Oper} {s:List SD} {id:Nat} {T:PT V} {hs:HS} {acc:List (List Nat×List Nat)} {R:PT V->HS->List (List Nat×List Nat)->Prop},zha ops l=some s->Rd E sz s id T hs acc R ->
 ∃ T' hs' acc',zct E (evJ E n) sz ops l id T hs acc=some ((T',hs'),acc')/\R T' hs' acc':=by
 intro l
 induction l with
 | nil =>
   intro s id T hs acc R h hr;cases h;exact⟨T,hs,acc,rfl,hr⟩
 | cons o l ih =>
   intro s id T hs acc R h hr;unfold zha at h;split at h
   . rename_i g r hg hl;cases h;have hr':z6V E id (zam T (looks ops o)) hs ⟨o.dst,o.op,g,looks ops o⟩ fun v hs' rw=>put sz T o.dst v fun T1=>Rd E sz r (id+1) T1 hs' (zbB acc [rw]) R:=hr
     unfold z6V at hr'
     have hst:∃ q,zaC E (evJ E n) ops o id (zam T (looks ops o)) hs=some q/\put sz T o.dst q.1 fun T1=>Rd E sz r (id+1) T1 q.2.1 (zbB acc [q.2.2]) R:=by
      unfold zgZ at hg;split at hg
      . rename_i hgn;cases hg;obtain⟨q,h1,h2⟩:=zqn (n:=n) hr';refine⟨q,?_,h2⟩;have hw:zdg ops (zam T (looks ops o)) o=some true:=by unfold zdg;rw[hgn];rfl
        unfold zaC;rw[hw,zN,zaf];exact h1
      . rename_i j w hgn;split at hg
        . rename_i p hp;split at hg
          . rename_i d hd;cases hg;obtain⟨v,hv,q,hq,h2⟩:=hr'
            have hw:zdg ops (zam T (looks ops o)) o=some (zdz q w):=by
             unfold zdg;rw[hgn,za8];show (ob (zeQ ops j) fun p=>_)=_;rw[zbY,hp,zN,hd,zN,hv,zN];exact V.guard?_want hq
            by_cases e:q=w
            . rw[if_pos e]at h2;obtain⟨q1,h3,h4⟩:=zqn (n:=n) h2;refine⟨q1,?_,h4⟩;unfold zaC;rw[hw,zN,show zdz q w=true by rw[e];cases w<;>rfl,zaf];exact h3
            . rw[if_neg e]at h2;refine⟨(undefV,hs,[],[]),?_,h2⟩;unfold zaC;rw[hw,zN,show zdz q w=false by revert e;cases w<;>cases q<;>simp[zdz,bi,nt],zX]
          . cases hg
        . cases hg
     obtain⟨q,h1,h2⟩:=hst;obtain⟨T1,h3,h4⟩:=zmQ h2;obtain⟨T',hs',acc',h5,h6⟩:=ih hl h4;refine⟨T',hs',acc',?_,h6⟩;show (ob (zaC E (evJ E n) ops o id (zam T (looks ops o)) hs) fun r=>ob (zmw sz T o.dst r.1) fun T'=>zct E (evJ E n) sz ops l (id+1) T' r.2.1 (zbB acc [r.2.2]))=_;rw[h1,zN,h3,zN];exact h5
   . cases h
theorem zvH{l:List SD}{bs:List Nat}(h:Rd E sz l hs.n T { H:=hs.H,n:=hs.n+l.length,log:=hs.log } [] fun T hs acc=>zck acc acc 0 bs=true/\Q .normal T hs):Js E rd sz (.draw l bs) T hs Q:=fun c hc=>by
 obtain⟨id,ops,rfl,hl,hb⟩:=zae hc
 have hlen:∀ {m:List Oper} {s:List SD},zha ops.toList m=some s->s.length=m.length:=by
  intro m
  induction m with
  |nil=>intro s h;cases h;rfl
  | cons o m ih =>
    intro s h;unfold zha at h;split at h
    . rename_i g r hg hr;cases h;simp[ih hr]
    . cases h
 rw[hlen hl]at h;obtain⟨T',hs',acc',h1,h2,h3⟩:=zN9 (n:=0) hl h;refine⟨1,.normal,T',hs',?_,h3⟩;show (ob (bi true (zlY E (evJ E 0) sz ops.toList T hs) _) fun r=>some (Ex.normal,r.1,r.2))=_;rw[zaf]
 have hd:zlY E (evJ E 0) sz ops.toList T hs=some (T',hs'):=by
  show (ob (zlX ops.toList) fun bs=>ob (zct E (evJ E 0) sz ops.toList ops.toList hs.n T { H:=hs.H,n:=hs.n+zS ops.toList,log:=hs.log } []) fun r=>gd (zck r.2 r.2 0 bs) (some r.1))=_;rw[hb,zN,zO,h1,zN,h2,zbA]
 rw[hd];rfl
end
theorem zqX{E:Env}{f:FuncId}{fn:Func}{s:SC}{vs:List V}{hs:HS}{T:PT V}{K:V->HS->Prop}(hf:E.P.funcs[f]?=some fn)(hb:fn.body.bind zz=some s)(he:zbu fn.ntmps vs 0 .leaf=some T)
 (h:Js E false fn.ntmps s T hs fun ex T' hs'=>(∀ i,ex≠.exit i)/\ok (znY E.P T' hs' fn.results.toList) fun l=>K (zcT l) hs'):∃ n v hs',(evJ E n).call f vs hs=some (v,hs')/\K v hs':=by
 cases hc:fn.body with
 |none=>rw[hc]at hb;cases hb
 |some c=>rw[hc]at hb;exact zwU hf hc he (h c hb)
def Leaves(P:Program)(fn:Func)(K:V->HS->Prop)(ex:Ex)(T:PT V)(hs:HS):Prop:=(∀ i,ex≠.exit i)/\ok (znY P T hs fn.results.toList) fun l=>K (zcT l) hs
def Gives(r:V)(v:V)(hs:HS):Prop:=still hs v=some r
theorem zjx{P:Program}{fn:Func}{K:V->HS->Prop}{T:PT V}{hs:HS}:Leaves P fn K .ret T hs=ok (znY P T hs fn.results.toList) fun l=>K (zcT l) hs :=
 propext ⟨fun h=>h.2,fun h=>⟨fun i h=>(by cases h),h⟩⟩
theorem zfM{P:Program}{fn:Func}{K:V->HS->Prop}{T:PT V}{hs:HS}:Leaves P fn K .normal T hs=ok (znY P T hs fn.results.toList) fun l=>K (zcT l) hs :=
 propext ⟨fun h=>h.2,fun h=>⟨fun i h=>(by cases h),h⟩⟩
end Go.J
