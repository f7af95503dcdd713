import Derived.Test.YtfgmnebfhemnpaaGreatJE
set_option linter.all false
noncomputable section
/- More depth changes no result. -/
namespace Go.J
structure EvLe(a b:Ev):Prop where
 code:∀ {rd sz c T hs r},a.code rd sz c T hs=some r->b.code rd sz c T hs=some r
 call:∀ {f vs hs r},a.call f vs hs=some r->b.call f vs hs=some r
section
variable {E:Env}{a b:Ev}{T:PT V}{hs:HS}
theorem zvw (h:EvLe a b) {f:FuncId} {vs:List V} {r:V×HS} (hr:zeH E a f vs hs=some r):zeH E b f vs hs=some r:=by
 unfold zeH at hr ⊢
 cases hp:E.pol f with
 | zero =>
   rw[hp]at hr;replace hr:bi (zD vs) (zbC a f vs hs) (a.call f vs hs)=some r:=hr;show bi (zD vs) (zbC b f vs hs) (b.call f vs hs)=some r;rw[zav]at hr ⊢;split at hr
   . rename_i hb;rw[if_pos hb];simp only[zbC,zu]at hr ⊢;obtain⟨q,h1,h2⟩:=hr;exact⟨q,h.call h1,h2⟩
   . rename_i hb;rw[if_neg hb];exact h.call hr
 | succ m =>
   rw[hp]at hr
   cases m with
   |zero=>exact h.call hr
   | succ m =>
    cases m with
    |succ m =>
     replace hr:zdd a f vs hs=some r:=hr;show zdd b f vs hs=some r;simp only[zdd,zu]at hr ⊢;obtain⟨q,h1,h2⟩:=hr;exact⟨q,h.call h1,h2⟩
    |zero =>
     replace hr:orc (a.call f vs hs) (fun args'=>zaX a f args' hs) (zaB hs vs)=some r:=hr;show orc (b.call f vs hs) (fun args'=>zaX b f args' hs) (zaB hs vs)=some r
     cases hs1:zaB hs vs with
     |none=>rw[hs1]at hr;exact h.call hr
     | some args' =>
       rw[hs1]at hr;replace hr:zaX a f args' hs=some r:=hr;show zaX b f args' hs=some r;simp only[zaX,zu,z8]at hr ⊢;obtain⟨q,h1,h2⟩:=hr;exact⟨q,h.call h1,h2⟩
theorem zyn(h:EvLe a b){f:FuncId}{vs:List V}{r:V×HS}(hr:zfJ E a f vs hs=some r):zfJ E b f vs hs=some r:=by
 unfold zfJ at hr ⊢
 cases hq:E.con f vs hs with
 |none=>rw[hq]at hr;exact zvw h hr
 |some q=>rw[hq]at hr;exact hr
theorem zqX(h:EvLe a b){id:Nat}{vs:List V}{r:V×HS}(hr:zdm a id vs hs=some r):zdm b id vs hs=some r:=by
 simp only[zdm,zu,z8]at hr ⊢;obtain⟨o,h1,l,h2,h3,T,h4,q,h5,h6,o1,h7,l1,h8,h9,p,h10,h11⟩:=hr;exact⟨o,h1,l,h2,h3,T,h4,q,h.code h5,h6,o1,h7,l1,h8,h9,p,h.code h10,h11⟩
theorem zfm(h:EvLe a b){dr:Bool}{id:Nat}{o:Oper}{r:V×HS}(hr:stepJ E a dr T hs id o=some r):stepJ E b dr T hs id o=some r:=by
 unfold stepJ at hr ⊢
 cases hc:zbG o.op with
 |none=>rw[hc]at hr;exact hr
 | some c =>
   rw[hc]at hr;replace hr:zcg E a T hs id c=some r:=hr;show zcg E b T hs id c=some r;simp only[zcg,zu]at hr ⊢;obtain⟨vs,h1,h2⟩:=hr;refine⟨vs,h1,?_⟩
   cases hcal:c.callee with
   |builtin bb=>rw[hcal]at h2;exact h2
   | value x =>
     rw[hcal]at h2;simp only[zu]at h2 ⊢;obtain⟨v,h3,h4⟩:=h2;refine⟨v,h3,?_⟩;unfold zgZ at h4 ⊢
     cases v with
     |func f cs=>exact zyn h h4
     |yld id=>exact zqX h h4
     |_=>cases h4
   |invoke x n=>rw[hcal]at h2;cases h2
theorem zl7(h:EvLe a b){sz id:Nat}{ops:List Oper}{o:Oper}{r:PT V×HS}(hr:zcx E a sz ops o id T hs=some r):zcx E b sz ops o id T hs=some r:=by
 simp only[zcx,zu]at hr ⊢;obtain⟨w,h1,h2⟩:=hr;refine⟨w,h1,?_⟩;rw[zav]at h2 ⊢;split at h2
 . rename_i hw;rw[if_pos hw];simp only[z8,zu]at h2 ⊢;obtain⟨h3,q,h4,h5⟩:=h2;exact⟨h3,q,zfm h h4,h5⟩
 . rename_i hw;rw[if_neg hw];exact h2
theorem ziX(h:EvLe a b){sz:Nat}{ops:List Oper}:∀ {l:List Oper} {id:Nat} {T:PT V} {hs:HS} {r:PT V×HS},zbU E a sz ops l id T hs=some r->zbU E b sz ops l id T hs=some r:=by
 intro l
 induction l with
 |nil=>intro id T hs r hr;exact hr
 | cons o l ih =>
   intro id T hs r hr;replace hr:(ob (zcx E a sz ops o id T hs) fun r=>zbU E a sz ops l (id+1) r.1 r.2)=some r:=hr;show (ob (zcx E b sz ops o id T hs) fun r=>zbU E b sz ops l (id+1) r.1 r.2)=some r;simp only[zu]at hr ⊢;obtain⟨q,h1,h2⟩:=hr;exact⟨q,zl7 h h1,ih h2⟩
theorem zvc(h:EvLe a b){o:Oper}{id:Nat}{r:V×HS×List Nat×List Nat}(hr:zdw E a o id T hs=some r):zdw E b o id T hs=some r:=by
 unfold zdw at hr ⊢
 cases hc:zM o.op with
 | zero =>
   rw[hc]at hr;replace hr:(ob (stepJ E a true T { H:=zal hs.H (readsOf T o.op),n:=0,log:=[] } id o) fun r=>some (r.1,hs,readsOf T o.op,[]))=some r:=hr;show (ob (stepJ E b true T { H:=zal hs.H (readsOf T o.op),n:=0,log:=[] } id o) fun r=>some (r.1,hs,readsOf T o.op,[]))=some r;simp only[zu]at hr ⊢;obtain⟨q,h1,h2⟩:=hr;exact⟨q,zfm h h1,h2⟩
 | succ m =>
   rw[hc]at hr
   cases m with
   | zero =>
     replace hr:(gd (zZ hs id) (ob (stepJ E a true T { H:=.leaf,n:=0,log:=[] } id o) fun r=>ob (r.2.H.get id) fun o'=>gd (nt o'.fz) (some (r.1,hs.put id o',[id],[]))))=some r:=hr;show (gd (zZ hs id) (ob (stepJ E b true T { H:=.leaf,n:=0,log:=[] } id o) fun r=>ob (r.2.H.get id) fun o'=>gd (nt o'.fz) (some (r.1,hs.put id o',[id],[]))))=some r;simp only[zu,z8]at hr ⊢;obtain⟨h0,q,h1,h2⟩:=hr;exact⟨h0,q,zfm h h1,h2⟩
   | succ m =>
     replace hr:(gd (zZ hs id) (ob (stepJ E a true T { H:=hs.H,n:=hs.n,log:=[] } id o) fun r=>some (r.1,{ H:=r.2.H,n:=r.2.n,log:=zb9 r.2.log hs.log },[],r.2.log)))=some r:=hr;show (gd (zZ hs id) (ob (stepJ E b true T { H:=hs.H,n:=hs.n,log:=[] } id o) fun r=>some (r.1,{ H:=r.2.H,n:=r.2.n,log:=zb9 r.2.log hs.log },[],r.2.log)))=some r;simp only[zu,z8]at hr ⊢;obtain⟨h0,q,h1,h2⟩:=hr;exact⟨h0,q,zfm h h1,h2⟩
theorem zpE(h:EvLe a b){o:Oper}{id:Nat}{r:V×HS×List Nat×List Nat}(hr:zdc E a o id T hs=some r):zdc E b o id T hs=some r:=by
 unfold zdc at hr ⊢;rw[zav]at hr ⊢;split at hr
 . rename_i hs0;rw[if_pos hs0];simp only[zjt,zu,z8]at hr ⊢;obtain⟨h0,q,h1,h2⟩:=hr;exact⟨h0,q,zfm h h1,h2⟩
 . rename_i hs0;rw[if_neg hs0];exact zvc h hr
theorem zpk(h:EvLe a b){sz:Nat}{ops:List Oper}:∀ {l:List Oper} {id:Nat} {T:PT V} {hs:HS} {acc:List (List Nat×List Nat)} {r:(PT V×HS)×List (List Nat×List Nat)},
 zcs E a sz ops l id T hs acc=some r->zcs E b sz ops l id T hs acc=some r:=by
 intro l
 induction l with
 |nil=>intro id T hs acc r hr;exact hr
 | cons o l ih =>
   intro id T hs acc r hr;replace hr:(ob (zaA E a ops o id (zal T (looks ops o)) hs) fun r=>ob (zmw sz T o.dst r.1) fun T'=>zcs E a sz ops l (id+1) T' r.2.1 (zb9 acc [r.2.2]))=some r:=hr;show (ob (zaA E b ops o id (zal T (looks ops o)) hs) fun r=>ob (zmw sz T o.dst r.1) fun T'=>zcs E b sz ops l (id+1) T' r.2.1 (zb9 acc [r.2.2]))=some r;simp only[zu]at hr ⊢;obtain⟨q,h1,T',h2,h3⟩:=hr;refine⟨q,?_,T',h2,ih h3⟩;simp only[zaA,zu]at h1 ⊢;obtain⟨w,h4,h5⟩:=h1;refine⟨w,h4,?_⟩;rw[zav]at h5 ⊢;split at h5
   . rename_i hw;rw[if_pos hw];exact zpE h h5
   . rename_i hw;rw[if_neg hw];exact h5
theorem z9a(h:EvLe a b){sz:Nat}{l:List Oper}{draw:Bool}{r:Ex×PT V×HS}(hr:z9b E a sz l draw T hs=some r):z9b E b sz l draw T hs=some r:=by
 simp only[z9b,zu]at hr ⊢;obtain⟨q,h1,h2⟩:=hr;refine⟨q,?_,h2⟩;rw[zav]at h1 ⊢;split at h1
 . rename_i hd;rw[if_pos hd];simp only[zlY,zu,z8]at h1 ⊢;obtain⟨bs,h3,p,h4,h5⟩:=h1;exact⟨bs,h3,p,zpk h h4,h5⟩
 . rename_i hd;rw[if_neg hd];exact ziX h h1
theorem zqT(h:EvLe a b){rd:Bool}{sz:Nat}{c:Code}{q r:Ex×PT V×HS}(hr:zmv a rd sz c q=some r):zmv b rd sz c q=some r:=by
 unfold zmv at hr ⊢
 cases hq:q.1 with
 |normal=>rw[hq]at hr;exact h.code hr
 |ret=>rw[hq]at hr;exact hr
 |exit i=>rw[hq]at hr;exact hr
theorem zyf(h:EvLe a b){rd:Bool}{sz:Nat}{c:Code}{r:Ex×PT V×HS}(hr:zmi E a rd sz c T hs=some r):zmi E b rd sz c T hs=some r:=by
 cases c<;>simp only[zmi]at hr ⊢<;>first|exact hr|exact z9a h hr|skip
 case seq x y =>
  simp only[zu]at hr ⊢;obtain⟨q,h1,h2⟩:=hr;exact⟨q,h.code h1,zqT h h2⟩
 case cond q x y =>
  simp only[zu]at hr ⊢;obtain⟨v,h1,t,h2,h3⟩:=hr;refine⟨v,h1,t,h2,?_⟩;rw[zav]at h3 ⊢;split at h3
  . rename_i hw;rw[if_pos hw];exact h.code h3
  . rename_i hw;rw[if_neg hw];exact h.code h3
 case block id body =>
  simp only[zu]at hr ⊢;obtain⟨q,h1,h2⟩:=hr;exact⟨q,h.code h1,h2⟩
 case loop body =>
  simp only[zu]at hr ⊢;obtain⟨q,h1,h2⟩:=hr;exact⟨q,h.code h1,zqT h h2⟩
 case rangeFunc g ps assign body =>
  simp only[z8,zu,zh3]at hr ⊢;obtain⟨h1,v,h2,p,h3,h4,q,h5,h6⟩:=hr;exact⟨h1,v,h2,p,h3,h4,q,h.call h5,h6⟩
theorem zyu(h:EvLe a b){f:FuncId}{vs:List V}{r:V×HS}(hr:ziM E a f vs hs=some r):ziM E b f vs hs=some r:=by
 simp only[ziM,zu]at hr ⊢;obtain⟨fn,h1,c,h2,T,h3,q,h4,h5⟩:=hr;exact⟨fn,h1,c,h2,T,h3,q,h.code h4,h5⟩
theorem zo5(E:Env):∀ n,EvLe (evJ E n) (evJ E (n+1)):=by
 intro n
 induction n with
 |zero=>exact⟨fun h=>(by cases h),fun h=>(by cases h)⟩
 |succ n ih=>exact⟨fun h=>zyf ih h,fun h=>zyu ih h⟩
theorem zg1(E:Env){m n:Nat}(h:m<=n):EvLe (evJ E m) (evJ E n):=by
 induction h with
 |refl=>exact⟨fun h=>h,fun h=>h⟩
 |step _ ih=>exact⟨fun h=>(zo5 E _).code (ih.code h),fun h=>(zo5 E _).call (ih.call h)⟩
end
end Go.J
/- Symbolic runs of the evaluator: a small calculus. -/
namespace Go.J
def ok{α:Type}(x:Option α)(K:α->Prop):Prop:=∃ a,x=some a/\K a
theorem zF{α:Type}(a:α)(K:α->Prop):ok (some a) K=K a:=propext ⟨fun ⟨b,h,k⟩=>by cases h;exact k,fun k=>⟨a,rfl,k⟩⟩
theorem zaj{α β:Type}(x:Option α)(f:α->Option β)(K:β->Prop):ok (ob x f) K=ok x fun a=>ok (f a) K:=by
 cases x with
 |none=>exact propext ⟨fun ⟨b,h,_⟩=>(by cases h),fun ⟨b,h,_⟩=>(by cases h)⟩
 |some a=>rw[zN,zF]
theorem zbV{α:Type}(c:Bool)(x:Option α)(K:α->Prop):ok (gd c x) K=(c=true/\ok x K):=by
 cases c with
 |true=>rw[zb8];simp
 |false=>rw[zoo];exact propext ⟨fun ⟨b,h,_⟩=>(by cases h),fun ⟨h,_⟩=>(by cases h)⟩
theorem zcu{α:Type}{x:Option α}{K K':α->Prop}(h:ok x K)(hk:∀ a,K a->K' a):ok x K':=let ⟨a,h1,h2⟩:=h;⟨a,h1,hk a h2⟩
def br(c A B:Prop):Prop:=(c->A)/\(¬ c->B)
theorem zAP(c:Prop) [Decidable c](A B:Prop):br c A B=if c then A else B:=by
 by_cases h:c<;>simp[br,h]
theorem zvy(A B:Prop):br True A B=A:=by simp[br]
theorem zoF(A B:Prop):br False A B=B:=by simp[br]
section
variable {E:Env}{rd:Bool}{sz:Nat}{T:PT V}{hs:HS}{Q:Ex->PT V->HS->Prop}
def Jc(E:Env)(rd:Bool)(sz:Nat)(c:Code)(T:PT V)(hs:HS)(Q:Ex->PT V->HS->Prop):Prop :=
 ∃ n ex T' hs',(evJ E n).code rd sz c T hs=some (ex,T',hs')/\Q ex T' hs'
def Ex.then(K:PT V->HS->Prop)(Q:Ex->PT V->HS->Prop):Ex->PT V->HS->Prop
 |.normal,T,hs=>K T hs
 |.ret,T,hs=>Q .ret T hs
 |.exit i,T,hs=>Q (.exit i) T hs
def Ex.inBlock(id:Nat)(Q:Ex->PT V->HS->Prop):Ex->PT V->HS->Prop
 |.normal,T,hs=>Q .normal T hs
 |.ret,T,hs=>Q .ret T hs
 |.exit i,T,hs=>if i=id then Q .normal T hs else Q (.exit i) T hs
theorem ziv{c:Code}{Q':Ex->PT V->HS->Prop}(h:Jc E rd sz c T hs Q)(hq:∀ e T hs,Q e T hs->Q' e T hs):Jc E rd sz c T hs Q' :=
 let ⟨n,e,T',hs',h1,h2⟩:=h;⟨n,e,T',hs',h1,hq _ _ _ h2⟩
theorem zBi(h:Q .normal T hs):Jc E rd sz .skip T hs Q:=⟨1,_,_,_,rfl,h⟩
theorem zBk{id:Nat}(h:Q (.exit id) T hs):Jc E rd sz (.exit id) T hs Q:=⟨1,_,_,_,rfl,h⟩
theorem zHL(h:Q .ret T hs):Jc E rd sz .ret T hs Q:=⟨1,_,_,_,rfl,h⟩
theorem zHK{a b:Code}(h:Jc E rd sz a T hs (Ex.then (fun T hs=>Jc E rd sz b T hs Q) Q)):Jc E rd sz (.seq a b) T hs Q:=by
 obtain⟨n,e,T1,hs1,h1,h2⟩:=h
 cases e with
 | normal =>
   obtain⟨m,e2,T2,hs2,h3,h4⟩:=h2;refine⟨max n m+1,e2,T2,hs2,?_,h4⟩;show (ob ((evJ E (max n m)).code rd sz a T hs) fun r=>zmv (evJ E (max n m)) rd sz b r)=_;rw[(zg1 E (Nat.le_max_left n m)).code h1,zN];exact(zg1 E (Nat.le_max_right n m)).code h3
 |ret=>exact⟨n+1,.ret,T1,hs1,by show (ob ((evJ E n).code rd sz a T hs) fun r=>zmv (evJ E n) rd sz b r)=_;rw[h1,zN];rfl,h2⟩
 |exit i=>exact⟨n+1,.exit i,T1,hs1,by show (ob ((evJ E n).code rd sz a T hs) fun r=>zmv (evJ E n) rd sz b r)=_;rw[h1,zN];rfl,h2⟩
theorem zBj{c:Code}(h:Jc E rd sz c T hs (Ex.then (fun T hs=>Jc E rd sz (.loop c) T hs Q) Q)):Jc E rd sz (.loop c) T hs Q:=by
 obtain⟨n,e,T1,hs1,h1,h2⟩:=h
 cases e with
 | normal =>
   obtain⟨m,e2,T2,hs2,h3,h4⟩:=h2;refine⟨max n m+1,e2,T2,hs2,?_,h4⟩;show (ob ((evJ E (max n m)).code rd sz c T hs) fun r=>zmv (evJ E (max n m)) rd sz (.loop c) r)=_;rw[(zg1 E (Nat.le_max_left n m)).code h1,zN];exact(zg1 E (Nat.le_max_right n m)).code h3
 |ret=>exact⟨n+1,.ret,T1,hs1,by show (ob ((evJ E n).code rd sz c T hs) fun r=>zmv (evJ E n) rd sz (.loop c) r)=_;rw[h1,zN];rfl,h2⟩
 |exit i=>exact⟨n+1,.exit i,T1,hs1,by show (ob ((evJ E n).code rd sz c T hs) fun r=>zmv (evJ E n) rd sz (.loop c) r)=_;rw[h1,zN];rfl,h2⟩
theorem zBl{q:Operand}{a b:Code}{t:Bool}(hq:zC T q=some (.bool t))(h1:t=true->Jc E rd sz a T hs Q)(h2:t=false->Jc E rd sz b T hs Q):Jc E rd sz (.cond q a b) T hs Q:=by
 have key:∀ n,(evJ E (n+1)).code rd sz (.cond q a b) T hs=bi t ((evJ E n).code rd sz a T hs) ((evJ E n).code rd sz b T hs):=by
  intro n;show (ob (zC T q) fun v=>ob v.bool? fun t=>bi t ((evJ E n).code rd sz a T hs) ((evJ E n).code rd sz b T hs))=_;rw[hq];rfl
 cases t with
 | true =>
   obtain⟨n,e,T1,hs1,h3,h4⟩:=h1 rfl;exact⟨n+1,e,T1,hs1,by rw[key];exact h3,h4⟩
 | false =>
   obtain⟨n,e,T1,hs1,h3,h4⟩:=h2 rfl;exact⟨n+1,e,T1,hs1,by rw[key];exact h3,h4⟩
theorem zy8{id:Nat}{c:Code}(h:Jc E rd sz c T hs (Ex.inBlock id Q)):Jc E rd sz (.block id c) T hs Q:=by
 obtain⟨n,e,T1,hs1,h1,h2⟩:=h
 have key:(evJ E (n+1)).code rd sz (.block id c) T hs=zmm id (e,T1,hs1):=by
  show (ob ((evJ E n).code rd sz c T hs) fun r=>zmm id r)=_;rw[h1];rfl
 cases e with
 |normal=>exact⟨n+1,_,_,_,key,h2⟩
 |ret=>exact⟨n+1,_,_,_,key,h2⟩
 | exit i =>
   by_cases hi:i=id
   . refine⟨n+1,.normal,T1,hs1,?_,by simpa [Ex.inBlock,hi]using h2⟩;rw[key];show bi (Nat.beq i id) _ _=_;rw[zav,if_pos (beq_true.2 hi)]
   . refine⟨n+1,.exit i,T1,hs1,?_,by simpa [Ex.inBlock,hi]using h2⟩;rw[key];show bi (Nat.beq i id) _ _=_;rw[zav,if_neg (fun h=>hi (beq_true.1 h))]
def Ro(E:Env)(sz:Nat)(ops l:List Oper)(id:Nat)(T:PT V)(hs:HS)(Q:PT V->HS->Prop):Prop:=∃ n T' hs',zbU E (evJ E n) sz ops l id T hs=some (T',hs')/\Q T' hs'
theorem zmr{id:Nat}{ops:List Oper}(h:Ro E sz ops ops hs.n T { H:=hs.H,n:=hs.n+ops.length,log:=hs.log } fun T hs=>Q .normal T hs):Jc E rd sz (.region id ops.toArray false) T hs Q:=by
 obtain⟨n,T1,hs1,h1,h2⟩:=h;refine⟨n+1,.normal,T1,hs1,?_,h2⟩;show (ob (bi false _ (zbU E (evJ E n) sz ops ops hs.n T { H:=hs.H,n:=hs.n+zU ops,log:=hs.log })) fun r=>some (Ex.normal,r.1,r.2))=_;rw[zX,zO,h1];rfl
variable {ops l:List Oper}{id:Nat}{R:PT V->HS->Prop}
theorem zHE:Ro E sz ops [] id T hs R=R T hs:=propext ⟨fun ⟨_,_,_,h1,h2⟩=>by cases h1;exact h2,fun h=>⟨0,T,hs,rfl,h⟩⟩
theorem zn9{o:Oper}(h:∃ n r,zcx E (evJ E n) sz ops o id T hs=some r/\Ro E sz ops l (id+1) r.1 r.2 R):Ro E sz ops (o::l) id T hs R:=by
 obtain⟨n,⟨T1,hs1⟩,h1,m,T2,hs2,h2,h3⟩:=h;refine⟨max n m,T2,hs2,?_,h3⟩;show (ob (zcx E (evJ E (max n m)) sz ops o id T hs) fun r=>zbU E (evJ E (max n m)) sz ops l (id+1) r.1 r.2)=_;rw[zl7 (zg1 E (Nat.le_max_left n m)) h1,zN];exact ziX (zg1 E (Nat.le_max_right n m)) h2
def put(sz:Nat)(T:PT V)(d:Option Tmp)(v:V)(K:PT V->Prop):Prop :=
 match d with
 |none=>K T
 |some d=>d<sz/\K (T.set d v)
theorem zmR{d:Option Tmp}{v:V}{K:PT V->Prop}(h:put sz T d v K):∃ T',zmw sz T d v=some T'/\K T':=by
 cases d with
 |none=>exact⟨T,rfl,h⟩
 |some d=>exact⟨T.set d v,by show gd (Nat.blt d sz) _=_;rw[blt_true.2 h.1];rfl,h.2⟩
end
theorem zwR{E:Env}{f:FuncId}{fn:Func}{c:Code}{vs:List V}{hs:HS}{T:PT V}{K:V->HS->Prop}(hf:E.P.funcs[f]?=some fn)(hb:fn.body=some c)(he:zbt fn.ntmps vs 0 .leaf=some T)
 (h:Jc E false fn.ntmps c T hs fun ex T' hs'=>(∀ i,ex≠.exit i)/\ok (znV E.P T' hs' fn.results.toList) fun l=>K (zcR l) hs'):∃ n v hs',(evJ E n).call f vs hs=some (v,hs')/\K v hs':=by
 obtain⟨n,ex,T',hs',h1,h2,l,h3,h4⟩:=h;refine⟨n+1,zcR l,hs',?_,h4⟩;show (ob (E.P.funcs[f]?) fun fn=>ob fn.body fun c=>ob (zbt fn.ntmps vs 0 .leaf) fun T=>ob ((evJ E n).code false fn.ntmps c T hs) fun r=>zl1 E.P fn r)=_;rw[hf,zN,hb,zN,he,zN,h1,zN];unfold zl1
 cases ex with
 |exit i=>exact absurd rfl (h2 i)
 |normal=>dsimp only;rw[h3];rfl
 |ret=>dsimp only;rw[h3];rfl
end Go.J
/- Code without what the evaluator does not look at;symbolic runs of it. -/
namespace Go.J
structure SOp where
 d:Option Tmp
 op:Op
 g:Option (Tmp×Bool)
structure SD where
 d:Option Tmp
 op:Op
 g:Option (Tmp×Bool)
 lk:List Nat
inductive SC where
 |draw (l:List SD) (bs:List Nat)
 |skip|ret
 |exit (id:Nat)
 |reg (l:List SOp)
 |seq (a b:SC)
 |cond (q:Operand) (a b:SC)
 |block (id:Nat) (a:SC)
 |loop (a:SC)
 |range (g:Operand) (ps:Array Tmp) (a b:SC)
def zhh (ops:List Oper):Option (Nat×Bool)->Option (Option (Tmp×Bool))
 |none=>some none
 | some (j,w)=>match ops[j]? with
   | some p=>match p.dst with
     |some d=>some (some (d,w))
     |none=>none
   |none=>none
def stripL (ops:List Oper):List Oper->Option (List SOp)
 | []=>some []
 | o::l=>match zhh ops o.guard,stripL ops l with
   |some g,some r=>some (⟨o.dst,o.op,g⟩::r)
   |_,_=>none
def zhi (ops:List Oper):List Oper->Option (List SD)
 | []=>some []
 | o::l=>match zhh ops o.guard,zhi ops l with
   |some g,some r=>some (⟨o.dst,o.op,g,looks ops o⟩::r)
   |_,_=>none
def zz:Code->Option SC
 | .region _ ops true=>match zhi ops.toList ops.toList,zlX ops.toList with
   |some l,some bs=>some (.draw l bs)
   |_,_=>none
 |.skip=>some .skip
 |.ret=>some .ret
 |.exit i=>some (.exit i)
 | .region _ ops false=>match stripL ops.toList ops.toList with
   |some l=>some (.reg l)
   |none=>none
 | .seq a b=>match zz a,zz b with
   |some a,some b=>some (.seq a b)
   |_,_=>none
 | .cond q a b=>match zz a,zz b with
   |some a,some b=>some (.cond q a b)
   |_,_=>none
 | .block i a=>match zz a with
   |some a=>some (.block i a)
   |none=>none
 | .loop a=>match zz a with
   |some a=>some (.loop a)
   |none=>none
 | .rangeFunc g ps a b=>match zz a,zz b with
   |some a,some b=>some (.range g ps a b)
   |_,_=>none
 |_=>none
section
variable {E:Env}{rd:Bool}{sz:Nat}{T:PT V}{hs:HS}{Q:Ex->PT V->HS->Prop}
def V.guard? (v:V)(w:Bool):Option Bool:=match v with
 |.bool b=>some b
 |.tuple []=>some (!w)
 |_=>none
def V.wantB(v:V)(w:Bool):Option Bool:=match v with
 |.bool b=>some (zdy b w)
 |.tuple []=>some false
 |_=>none
theorem V.guard?_want {v:V}{w q:Bool}(h:v.guard? w=some q):v.wantB w=some (zdy q w):=by
 unfold V.guard? at h;split at h
 . cases h;rfl
 . cases h;cases w<;>rfl
 . cases h
def wpO (E:Env) (id:Nat) (T:PT V) (hs:HS) (op:Op) (K:V->HS->Prop):Prop :=
 match op with
 | .call c=>match c.callee with
   |.builtin b=>(zM op≠0->hs.H.get id=none)/\ok (zaL T c.args.toList) fun vs=>ok (zb4 E.P hs id b c.argTypes.toList vs) fun r=>K r.1 r.2
   |.value x=>hs.H.get id=none/\ok (zC T x) fun v=>ok (funcOf v) fun p=>ok (zaL T c.args.toList) fun vs=>ok (E.con p.1 (zb9 vs p.2) hs) fun r=>K r.1 r.2
   |.invoke _ _=>False
 |op=>(zM op≠0->hs.H.get id=none)/\ok (opJ E.P false T hs id (opR op)) fun r=>K r.1 r.2
def wpS(E:Env)(id:Nat)(T:PT V)(hs:HS)(s:SOp)(K:V->HS->Prop):Prop :=
 match s.g with
 |none=>wpO E id T hs s.op K
 |some (t,w)=>ok (T.get t) fun v=>ok (v.guard? w) fun q=>if q=w then wpO E id T hs s.op K else K undefV hs
def Rs(E:Env)(sz:Nat):List SOp->Nat->PT V->HS->(PT V->HS->Prop)->Prop
 | [],_,T,hs,R=>R T hs
 |s::l,id,T,hs,R=>wpS E id T hs s fun v hs'=>put sz T s.d v fun T1=>Rs E sz l (id+1) T1 hs' R
theorem zwf {id:Nat} {op:Op} {K:V->HS->Prop} (h:wpO E id T hs op K):(zM op≠0->hs.H.get id=none) /\
 ((zbG op=none/\ok (opJ E.P false T hs id (opR op)) fun r=>K r.1 r.2)\/(∃ c,zbG op=some c/\ok (zaL T c.args.toList) fun vs =>
   (∃ b,c.callee=.builtin b/\ok (zb4 E.P hs id b c.argTypes.toList vs) fun r=>K r.1 r.2)\/∃ x f caps,c.callee=.value x/\zC T x=some (.func f caps)/\ok (E.con f (zb9 vs caps) hs) fun r=>K r.1 r.2)):=by
 unfold wpO at h;split at h
 . rename_i c;split at h
   . rename_i b hb;exact⟨h.1,.inr ⟨c,rfl,zcu h.2 fun vs hv=>.inl ⟨b,hb,hv⟩⟩⟩
   . rename_i x hx;obtain⟨h1,v,hv,p,hp,vs,hvs,h2⟩:=h;obtain⟨f,caps⟩:=p
     have e:v=.func f caps:=by
      unfold funcOf at hp;split at hp
      . cases hp;rfl
      . cases hp
     subst e;exact⟨fun _=>h1,.inr ⟨c,rfl,vs,hvs,.inr ⟨x,f,caps,hx,hv,h2⟩⟩⟩
   . exact h.elim
 . rename_i hne;refine⟨h.1,.inl ⟨?_,h.2⟩⟩;cases op<;>first|rfl|exact absurd rfl (hne _)
theorem z8H {ops:List Oper} {id:Nat} {o:Oper} {n:Nat} {K:PT V->HS->Prop} {q:Bool} (hw:zde ops T o=some q)
 (h:if q=true then wpO E id T hs o.op (fun v hs'=>put sz T o.dst v fun T1=>K T1 hs')else put sz T o.dst undefV fun T1=>K T1 hs) :
 ∃ r,zcx E (evJ E n) sz ops o id T hs=some r/\K r.1 r.2:=by
 cases q with
 | false =>
   rw[if_neg (by simp)]at h;obtain⟨T1,h4,h5⟩:=zmR h;refine⟨(T1,hs),?_,h5⟩;show (ob (zde ops T o) fun w=>bi w _ _)=_;rw[hw,zN,zX,h4];rfl
 | true =>
   rw[if_pos rfl]at h;obtain⟨h1,h2⟩:=zwf h
   have hv:bi (Nat.beq (zM o.op) 0) true (zZ hs id)=true:=by
    rw[zav];split
    . rfl
    . rename_i hne;exact vacant_eq.2 (h1 fun e=>hne (beq_true.2 e))
   have fin:∀ r:V×HS,stepJ E (evJ E n) false T hs id o=some r->(put sz T o.dst r.1 fun T1=>K T1 r.2)->∃ r,zcx E (evJ E n) sz ops o id T hs=some r/\K r.1 r.2:=by
    intro r hst hp;obtain⟨T1,h4,h5⟩:=zmR hp;refine⟨(T1,r.2),?_,h5⟩;show (ob (zde ops T o) fun w=>bi w _ _)=_;rw[hw,zN,zah,hv,zb8,hst,zN,h4];rfl
   rcases h2 with⟨hc,r,h2,h3⟩|⟨c,hc,vs,hvs,h2⟩
   . exact fin r (by unfold stepJ;rw[hc];exact h2) h3
   . rcases h2 with⟨b,hb,r,h2,h3⟩|⟨x,f,caps,hx,hxv,r,h2,h3⟩
     . refine fin r ?_ h3;unfold stepJ;rw[hc];show (ob (zaL T c.args.toList) fun vs=>_)=_;rw[hvs,zN,hb];exact h2
     . refine fin r ?_ h3;unfold stepJ;rw[hc];show (ob (zaL T c.args.toList) fun vs=>_)=_;rw[hvs,zN,hx];show (ob (zC T x) fun v=>zgZ E (evJ E n) v vs hs)=_;rw[hxv,zN];show zfJ E (evJ E n) f (zb9 vs caps) hs=some r;unfold zfJ;rw[h2,za7]
theorem zAY {ops:List Oper}:∀ {l:List Oper} {s:List SOp} {id:Nat} {T:PT V} {hs:HS} {R:PT V->HS->Prop},stripL ops l=some s->Rs E sz s id T hs R->Ro E sz ops l id T hs R:=by
 intro l
 induction l with
 | nil =>
   intro s id T hs R h hr;cases h;rw[zHE];exact hr
 | cons o l ih =>
   intro s id T hs R h hr;unfold stripL at h;split at h
   . rename_i g r hg hl;cases h;have hr':wpS E id T hs ⟨o.dst,o.op,g⟩ fun v hs'=>put sz T o.dst v fun T1=>Rs E sz r (id+1) T1 hs' R:=hr
     unfold wpS at hr'
     have hst:∃ q,zde ops T o=some q/\(if q=true then wpO E id T hs o.op (fun v hs'=>put sz T o.dst v fun T1=>Rs E sz r (id+1) T1 hs' R)else put sz T o.dst undefV fun T1=>Rs E sz r (id+1) T1 hs R):=by
      unfold zhh at hg;split at hg
      . rename_i hgn;cases hg;refine⟨true,?_,by rw[if_pos rfl];exact hr'⟩;unfold zde;rw[hgn];rfl
      . rename_i j w hgn;split at hg
        . rename_i p hp;split at hg
          . rename_i d hd;cases hg;obtain⟨v,hv,q,hq,h2⟩:=hr';refine⟨zdy q w,?_,?_⟩
            . unfold zde;rw[hgn,za7];show (ob (zeP ops j) fun p=>_)=_;rw[zbW,hp,zN,hd,zN,hv,zN];exact V.guard?_want hq
            . by_cases e:q=w
              . rw[if_pos e]at h2;rw[if_pos (by rw[e];cases w<;>rfl)];exact h2
              . rw[if_neg e]at h2;rw[if_neg (by revert e;cases w<;>cases q<;>simp[zdy,bi,nt])];exact h2
          . cases hg
        . cases hg
     obtain⟨q,hw,h3⟩:=hst;obtain⟨r1,h4,h5⟩:=z8H (n:=0) hw h3;exact zn9 ⟨0,r1,h4,ih hl h5⟩
   . cases h
def Js(E:Env)(rd:Bool)(sz:Nat)(s:SC)(T:PT V)(hs:HS)(Q:Ex->PT V->HS->Prop):Prop:=∀ c,zz c=some s->Jc E rd sz c T hs Q
theorem zBg{s:SC}{Q':Ex->PT V->HS->Prop}(h:Js E rd sz s T hs Q)(hq:∀ e T hs,Q e T hs->Q' e T hs):Js E rd sz s T hs Q':=fun c hc=>ziv (h c hc) hq
theorem zaf{c:Code}{s:SC}(h:zz c=some s):match s with
 |.draw l bs=>∃ id ops,c=.region id ops true/\zhi ops.toList ops.toList=some l/\zlX ops.toList=some bs
 |.skip=>c=.skip
 |.ret=>c=.ret
 |.exit i=>c=.exit i
 |.reg l=>∃ id ops,c=.region id ops false/\stripL ops.toList ops.toList=some l
 |.seq a b=>∃ x y,c=.seq x y/\zz x=some a/\zz y=some b
 |.cond q a b=>∃ x y,c=.cond q x y/\zz x=some a/\zz y=some b
 |.block i a=>∃ x,c=.block i x/\zz x=some a
 |.loop a=>∃ x,c=.loop x/\zz x=some a
 |.range g ps a b=>∃ x y,c=.rangeFunc g ps x y/\zz x=some a/\zz y=some b:=by
 cases c with
 |skip=>cases h;rfl
 |ret=>cases h;rfl
 |exit i=>cases h;rfl
 | region id ops draw =>
   cases draw with
   | true =>
     unfold zz at h;split at h
     . rename_i l bs hl hb;cases h;exact⟨id,ops,rfl,hl,hb⟩
     . cases h
   | false =>
     unfold zz at h;split at h
     . rename_i l hl;cases h;exact⟨id,ops,rfl,hl⟩
     . cases h
 | seq x y =>
   unfold zz at h;split at h
   . rename_i a b ha hb;cases h;exact⟨x,y,rfl,ha,hb⟩
   . cases h
 | cond q x y =>
   unfold zz at h;split at h
   . rename_i a b ha hb;cases h;exact⟨x,y,rfl,ha,hb⟩
   . cases h
 | block i x =>
   unfold zz at h;split at h
   . rename_i a ha;cases h;exact⟨x,rfl,ha⟩
   . cases h
 | rangeFunc g ps x y =>
   unfold zz at h;split at h
   . rename_i a b ha hb;cases h;exact⟨x,y,rfl,ha,hb⟩
   . cases h
 | loop x =>
   unfold zz at h;split at h
   . rename_i a ha;cases h;exact⟨x,rfl,ha⟩
   . cases h
 |_=>cases h
theorem znA(h:Q .normal T hs):Js E rd sz .skip T hs Q:=fun c hc=>by have e:c=.skip:=zaf hc;rw[e];exact zBi h
theorem zHJ(h:Q .ret T hs):Js E rd sz .ret T hs Q:=fun c hc=>by have e:c=.ret:=zaf hc;rw[e];exact zHL h
theorem zvH{i:Nat}(h:Q (.exit i) T hs):Js E rd sz (.exit i) T hs Q:=fun c hc=>by have e:c=.exit i:=zaf hc;rw[e];exact zBk h
theorem zg3{a b:SC}(h:Js E rd sz a T hs (Ex.then (fun T hs=>Js E rd sz b T hs Q) Q)):Js E rd sz (.seq a b) T hs Q:=fun c hc=>by
 obtain⟨x,y,rfl,hx,hy⟩:=zaf hc;refine zHK (ziv (h x hx) fun e T hs he=>?_)
 cases e with
 |normal=>exact he y hy
 |ret=>exact he
 |exit i=>exact he
theorem zk0{q:Operand}{a b:SC}{t:Bool}(hq:zC T q=some (.bool t))(h1:t=true->Js E rd sz a T hs Q)(h2:t=false->Js E rd sz b T hs Q):Js E rd sz (.cond q a b) T hs Q:=fun c hc=>by
 obtain⟨x,y,rfl,hx,hy⟩:=zaf hc;exact zBl hq (fun h=>h1 h x hx) (fun h=>h2 h y hy)
theorem zk1{id:Nat}{a:SC}(h:Js E rd sz a T hs (Ex.inBlock id Q)):Js E rd sz (.block id a) T hs Q:=fun c hc=>by
 obtain⟨x,rfl,hx⟩:=zaf hc;exact zy8 (h x hx)
theorem zvG{a:SC}(h:Js E rd sz a T hs (Ex.then (fun T hs=>Js E rd sz (.loop a) T hs Q) Q)):Js E rd sz (.loop a) T hs Q:=fun c hc=>by
 obtain⟨x,rfl,hx⟩:=zaf hc;refine zBj (ziv (h x hx) fun e T hs he=>?_)
 cases e with
 |normal=>exact he _ hc
 |ret=>exact he
 |exit i=>exact he
theorem zj1{l:List SOp}(h:Rs E sz l hs.n T { H:=hs.H,n:=hs.n+l.length,log:=hs.log } fun T hs=>Q .normal T hs):Js E rd sz (.reg l) T hs Q:=fun c hc=>by
 obtain⟨id,ops,rfl,hl⟩:=zaf hc
 have hlen:∀ {m:List Oper} {s:List SOp},stripL ops.toList m=some s->s.length=m.length:=by
  intro m
  induction m with
  |nil=>intro s h;cases h;rfl
  | cons o m ih =>
    intro s h;unfold stripL at h;split at h
    . rename_i g r hg hr;cases h;simp[ih hr]
    . cases h
 rw[hlen hl]at h;have:=zmr (id:=id) (rd:=rd) (Q:=Q) (zAY hl h);simpa using this
end
section
variable {E:Env}{rd:Bool}{sz:Nat}{T:PT V}{hs:HS}{Q:Ex->PT V->HS->Prop}
def zDz (E:Env) (id:Nat) (T:PT V) (hs:HS) (op:Op) (K:V->HS->List Nat×List Nat->Prop):Prop :=
 match zM op with
 | 0 => match op with
   | .call c=>match c.callee with
     |.builtin b=>ok (zaL T c.args.toList) fun vs=>ok (zb4 E.P { H:=zal hs.H (readsOf T op),n:=0,log:=[] } id b c.argTypes.toList vs) fun r=>K r.1 hs (readsOf T op,[])
     |_=>False
   |op=>ok (opJ E.P true T { H:=zal hs.H (readsOf T op),n:=0,log:=[] } id (opR op)) fun r=>K r.1 hs (readsOf T op,[])
 | 1=>hs.H.get id=none/\ok (opJ E.P true T { H:=.leaf,n:=0,log:=[] } id (opR op)) fun r=>ok (r.2.H.get id) fun o'=>o'.fz=false/\K r.1 (hs.put id o') ([id],[])
 | _ => hs.H.get id=none/\(match op with
   | .call c=>match c.callee with
     |.builtin b=>ok (zaL T c.args.toList) fun vs=>ok (zb4 E.P { H:=hs.H,n:=hs.n,log:=[] } id b c.argTypes.toList vs) fun r=>K r.1 { H:=r.2.H,n:=r.2.n,log:=zb9 r.2.log hs.log } ([],r.2.log)
     |.value x=>ok (zC T x) fun v=>ok (funcOf v) fun p=>ok (zaL T c.args.toList) fun vs=>ok (E.con p.1 (zb9 vs p.2) { H:=hs.H,n:=hs.n,log:=[] }) fun r=>K r.1 { H:=r.2.H,n:=r.2.n,log:=zb9 r.2.log hs.log } ([],r.2.log)
     |.invoke _ _=>False
   |op=>ok (opJ E.P true T { H:=hs.H,n:=hs.n,log:=[] } id (opR op)) fun r=>K r.1 { H:=r.2.H,n:=r.2.n,log:=zb9 r.2.log hs.log } ([],r.2.log))
def wpD(E:Env)(id:Nat)(T:PT V)(hs:HS)(op:Op)(K:V->HS->List Nat×List Nat->Prop):Prop :=
 match op with
 |.store t a x=>hs.H.get id=none/\ok (zaV E.P T { H:=zal hs.H (zbO T hs (.store t a x)),n:=0,log:=[] } t a x) fun r=>K r.1 { H:=zlf hs.H r.2.H (zbO T hs (.store t a x)),n:=hs.n,log:=zb9 r.2.log hs.log } (zbO T hs (.store t a x),r.2.log)
 |op=>zDz E id T hs op K
def z7V(E:Env)(id:Nat)(T:PT V)(hs:HS)(s:SD)(K:V->HS->List Nat×List Nat->Prop):Prop :=
 match s.g with
 |none=>wpD E id T hs s.op K
 |some (t,w)=>ok (T.get t) fun v=>ok (v.guard? w) fun q=>if q=w then wpD E id T hs s.op K else K undefV hs ([],[])
def Rd(E:Env)(sz:Nat):List SD->Nat->PT V->HS->List (List Nat×List Nat)->(PT V->HS->List (List Nat×List Nat)->Prop)->Prop
 | [],_,T,hs,acc,R=>R T hs acc
 |s::l,id,T,hs,acc,R=>z7V E id (zal T s.lk) hs s fun v hs' rw=>put sz T s.d v fun T1=>Rd E sz l (id+1) T1 hs' (zb9 acc [rw]) R
theorem zwg {id:Nat} {o:Oper} {n:Nat} {K:V->HS->List Nat×List Nat->Prop} (h:zDz E id T hs o.op K):∃ r,zdw E (evJ E n) o id T hs=some r/\K r.1 r.2.1 r.2.2:=by
 unfold zDz at h
 have hcall:∀ {hs0:HS} {c:Call} {b:Builtin} {vs:List V} {r:V×HS},zbG o.op=some c->c.callee=.builtin b->zaL T c.args.toList=some vs->zb4 E.P hs0 id b c.argTypes.toList vs=some r->stepJ E (evJ E n) true T hs0 id o=some r:=by
  intro hs0 c b vs r h1 h2 h3 h4;unfold stepJ;rw[h1];show (ob (zaL T c.args.toList) fun vs=>_)=_;rw[h3,zN,h2];exact h4
 have hop:∀ {hs0:HS} {r:V×HS},zbG o.op=none->opJ E.P true T hs0 id (opR o.op)=some r->stepJ E (evJ E n) true T hs0 id o=some r:=by
  intro hs0 r h1 h2;unfold stepJ;rw[h1];exact h2
 have hnone:∀ {op:Op},(∀ c,op≠.call c)->zbG op=none:=by
  intro op h;cases op<;>first|rfl|exact absurd rfl (h _)
 split at h
 . rename_i hc
   have key:∀ r:V×HS,stepJ E (evJ E n) true T { H:=zal hs.H (readsOf T o.op),n:=0,log:=[] } id o=some r->zdw E (evJ E n) o id T hs=some (r.1,hs,readsOf T o.op,[]):=by
    intro r hr;unfold zdw;rw[hc];show (ob (stepJ E (evJ E n) true T { H:=zal hs.H (readsOf T o.op),n:=0,log:=[] } id o) fun r=>some (r.1,hs,readsOf T o.op,[]))=_;rw[hr];rfl
   split at h
   . rename_i c hcc;split at h
     . rename_i b hb;obtain⟨vs,hvs,r,hr,hk⟩:=h;have hco:zbG o.op=some c:=by rw[hcc];rfl
       exact⟨_,key r (hcall hco hb hvs hr),hk⟩
     . exact h.elim
   . rename_i hne;obtain⟨r,hr,hk⟩:=h;exact⟨_,key r (hop (hnone hne) hr),hk⟩
 . rename_i hc;obtain⟨h0,r,hr,o',ho,hz,hk⟩:=h;refine⟨(r.1,hs.put id o',[id],[]),?_,hk⟩;unfold zdw;rw[hc];show (gd (zZ hs id) (ob (stepJ E (evJ E n) true T { H:=.leaf,n:=0,log:=[] } id o) fun r=>ob (r.2.H.get id) fun o'=>gd (nt o'.fz) (some (r.1,hs.put id o',[id],[]))))=_;rw[vacant_eq.2 h0,zb8,hop (zii hc) hr,zN,ho,zN,hz];rfl
 . rename_i hc0 hc1;obtain⟨h0,h⟩:=h
   have hc:zM o.op=2:=by
    rcases zjd o.op with h|h|h
    . exact absurd h hc0
    . exact absurd h hc1
    . exact h
   have key:∀ r:V×HS,stepJ E (evJ E n) true T { H:=hs.H,n:=hs.n,log:=[] } id o=some r->zdw E (evJ E n) o id T hs=some (r.1,{ H:=r.2.H,n:=r.2.n,log:=zb9 r.2.log hs.log },[],r.2.log):=by
    intro r hr;unfold zdw;rw[hc];show (gd (zZ hs id) (ob (stepJ E (evJ E n) true T { H:=hs.H,n:=hs.n,log:=[] } id o) fun r=>some (r.1,({ H:=r.2.H,n:=r.2.n,log:=zb9 r.2.log hs.log }:HS),([]:List Nat),r.2.log)))=_;rw[vacant_eq.2 h0,zb8,hr];rfl
   split at h
   . rename_i c hcc;have hco:zbG o.op=some c:=by rw[hcc];rfl
     split at h
     . rename_i b hb;obtain⟨vs,hvs,r,hr,hk⟩:=h;exact⟨_,key r (hcall hco hb hvs hr),hk⟩
     . rename_i x hx;obtain⟨v,hv,p,hp,vs,hvs,r,hr,hk⟩:=h;obtain⟨f,caps⟩:=p
       have e:v=.func f caps:=by
        unfold funcOf at hp;split at hp
        . cases hp;rfl
        . cases hp
       subst e;refine⟨_,key r ?_,hk⟩;unfold stepJ;rw[hco];show (ob (zaL T c.args.toList) fun vs=>_)=_;rw[hvs,zN,hx];show (ob (zC T x) fun v=>zgZ E (evJ E n) v vs _)=_;rw[hv,zN];show zfJ E (evJ E n) f (zb9 vs caps) _=some r;unfold zfJ;rw[hr,za7]
     . exact h.elim
   . rename_i hne;obtain⟨r,hr,hk⟩:=h;exact⟨_,key r (hop (hnone hne) hr),hk⟩
theorem zql{id:Nat}{o:Oper}{n:Nat}{K:V->HS->List Nat×List Nat->Prop}(h:wpD E id T hs o.op K):∃ r,zdc E (evJ E n) o id T hs=some r/\K r.1 r.2.1 r.2.2:=by
 unfold wpD at h;unfold zdc;split at h
 . rename_i t a x hop;obtain⟨h0,r,hr,hk⟩:=h;have hs0:zaM o.op=true:=by rw[hop];rfl
   rw[hs0,zah];unfold zjt;rw[vacant_eq.2 h0,zb8,hop,zcF hop,hr,zN];exact⟨_,rfl,hk⟩
 . rename_i hne
   have hs0:zaM o.op=false:=by
    unfold zaM;split
    . rename_i t a x e;exact absurd e (hne t a x)
    . rfl
   rw[hs0,zX];exact zwg h
theorem zOr {ops:List Oper} {n:Nat}:∀ {l:List Oper} {s:List SD} {id:Nat} {T:PT V} {hs:HS} {acc:List (List Nat×List Nat)} {R:PT V->HS->List (List Nat×List Nat)->Prop},zhi ops l=some s->Rd E sz s id T hs acc R ->
 ∃ T' hs' acc',zcs E (evJ E n) sz ops l id T hs acc=some ((T',hs'),acc')/\R T' hs' acc':=by
 intro l
 induction l with
 | nil =>
   intro s id T hs acc R h hr;cases h;exact⟨T,hs,acc,rfl,hr⟩
 | cons o l ih =>
   intro s id T hs acc R h hr;unfold zhi at h;split at h
   . rename_i g r hg hl;cases h;have hr':z7V E id (zal T (looks ops o)) hs ⟨o.dst,o.op,g,looks ops o⟩ fun v hs' rw=>put sz T o.dst v fun T1=>Rd E sz r (id+1) T1 hs' (zb9 acc [rw]) R:=hr
     unfold z7V at hr'
     have hst:∃ q,zaA E (evJ E n) ops o id (zal T (looks ops o)) hs=some q/\put sz T o.dst q.1 fun T1=>Rd E sz r (id+1) T1 q.2.1 (zb9 acc [q.2.2]) R:=by
      unfold zhh at hg;split at hg
      . rename_i hgn;cases hg;obtain⟨q,h1,h2⟩:=zql (n:=n) hr';refine⟨q,?_,h2⟩;have hw:zde ops (zal T (looks ops o)) o=some true:=by unfold zde;rw[hgn];rfl
        unfold zaA;rw[hw,zN,zah];exact h1
      . rename_i j w hgn;split at hg
        . rename_i p hp;split at hg
          . rename_i d hd;cases hg;obtain⟨v,hv,q,hq,h2⟩:=hr'
            have hw:zde ops (zal T (looks ops o)) o=some (zdy q w):=by
             unfold zde;rw[hgn,za7];show (ob (zeP ops j) fun p=>_)=_;rw[zbW,hp,zN,hd,zN,hv,zN];exact V.guard?_want hq
            by_cases e:q=w
            . rw[if_pos e]at h2;obtain⟨q1,h3,h4⟩:=zql (n:=n) h2;refine⟨q1,?_,h4⟩;unfold zaA;rw[hw,zN,show zdy q w=true by rw[e];cases w<;>rfl,zah];exact h3
            . rw[if_neg e]at h2;refine⟨(undefV,hs,[],[]),?_,h2⟩;unfold zaA;rw[hw,zN,show zdy q w=false by revert e;cases w<;>cases q<;>simp[zdy,bi,nt],zX]
          . cases hg
        . cases hg
     obtain⟨q,h1,h2⟩:=hst;obtain⟨T1,h3,h4⟩:=zmR h2;obtain⟨T',hs',acc',h5,h6⟩:=ih hl h4;refine⟨T',hs',acc',?_,h6⟩;show (ob (zaA E (evJ E n) ops o id (zal T (looks ops o)) hs) fun r=>ob (zmw sz T o.dst r.1) fun T'=>zcs E (evJ E n) sz ops l (id+1) T' r.2.1 (zb9 acc [r.2.2]))=_;rw[h1,zN,h3,zN];exact h5
   . cases h
theorem zvI{l:List SD}{bs:List Nat}(h:Rd E sz l hs.n T { H:=hs.H,n:=hs.n+l.length,log:=hs.log } [] fun T hs acc=>zcj acc acc 0 bs=true/\Q .normal T hs):Js E rd sz (.draw l bs) T hs Q:=fun c hc=>by
 obtain⟨id,ops,rfl,hl,hb⟩:=zaf hc
 have hlen:∀ {m:List Oper} {s:List SD},zhi ops.toList m=some s->s.length=m.length:=by
  intro m
  induction m with
  |nil=>intro s h;cases h;rfl
  | cons o m ih =>
    intro s h;unfold zhi at h;split at h
    . rename_i g r hg hr;cases h;simp[ih hr]
    . cases h
 rw[hlen hl]at h;obtain⟨T',hs',acc',h1,h2,h3⟩:=zOr (n:=0) hl h;refine⟨1,.normal,T',hs',?_,h3⟩;show (ob (bi true (zlY E (evJ E 0) sz ops.toList T hs) _) fun r=>some (Ex.normal,r.1,r.2))=_;rw[zah]
 have hd:zlY E (evJ E 0) sz ops.toList T hs=some (T',hs'):=by
  show (ob (zlX ops.toList) fun bs=>ob (zcs E (evJ E 0) sz ops.toList ops.toList hs.n T { H:=hs.H,n:=hs.n+zU ops.toList,log:=hs.log } []) fun r=>gd (zcj r.2 r.2 0 bs) (some r.1))=_;rw[hb,zN,zO,h1,zN,h2,zb8]
 rw[hd];rfl
end
theorem zqW{E:Env}{f:FuncId}{fn:Func}{s:SC}{vs:List V}{hs:HS}{T:PT V}{K:V->HS->Prop}(hf:E.P.funcs[f]?=some fn)(hb:fn.body.bind zz=some s)(he:zbt fn.ntmps vs 0 .leaf=some T)
 (h:Js E false fn.ntmps s T hs fun ex T' hs'=>(∀ i,ex≠.exit i)/\ok (znV E.P T' hs' fn.results.toList) fun l=>K (zcR l) hs'):∃ n v hs',(evJ E n).call f vs hs=some (v,hs')/\K v hs':=by
 cases hc:fn.body with
 |none=>rw[hc]at hb;cases hb
 |some c=>rw[hc]at hb;exact zwR hf hc he (h c hb)
def Leaves(P:Program)(fn:Func)(K:V->HS->Prop)(ex:Ex)(T:PT V)(hs:HS):Prop:=(∀ i,ex≠.exit i)/\ok (znV P T hs fn.results.toList) fun l=>K (zcR l) hs
def Gives(r:V)(v:V)(hs:HS):Prop:=still hs v=some r
theorem zj0{P:Program}{fn:Func}{K:V->HS->Prop}{T:PT V}{hs:HS}:Leaves P fn K .ret T hs=ok (znV P T hs fn.results.toList) fun l=>K (zcR l) hs :=
 propext ⟨fun h=>h.2,fun h=>⟨fun i h=>(by cases h),h⟩⟩
theorem zfO{P:Program}{fn:Func}{K:V->HS->Prop}{T:PT V}{hs:HS}:Leaves P fn K .normal T hs=ok (znV P T hs fn.results.toList) fun l=>K (zcR l) hs :=
 propext ⟨fun h=>h.2,fun h=>⟨fun i h=>(by cases h),h⟩⟩
end Go.J
