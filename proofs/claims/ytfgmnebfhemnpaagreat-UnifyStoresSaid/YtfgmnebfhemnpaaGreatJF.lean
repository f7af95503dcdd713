import Derived.Test.YtfgmnebfhemnpaaGreatJE
set_option linter.all false
noncomputable section
/- More depth changes no result. -/
namespace Go.J
structure EvLe(a b:Ev):Prop where
 code:∀ {rd sz c T hs r},a.code rd sz c T hs=some r->b.code rd sz c T hs=some r
 call:∀ {f vs hs r},a.call f vs hs=some r->b.call f vs hs=some r
section
variable {E:Env}{a b:Ev}{T:PT V}{hs:HS}
theorem zwb (h:EvLe a b) {f:FuncId} {vs:List V} {r:V×HS} (hr:zeK E a f vs hs=some r):zeK E b f vs hs=some r:=by
 unfold zeK at hr ⊢
 cases hp:E.pol f with
 | zero =>
   rw[hp]at hr;replace hr:bi (zD vs) (zbF a f vs hs) (a.call f vs hs)=some r:=hr;show bi (zD vs) (zbF b f vs hs) (b.call f vs hs)=some r;rw[zaz]at hr ⊢;split at hr
   . rename_i hb;rw[if_pos hb];simp only[zbF,zq]at hr ⊢;obtain⟨q,h1,h2⟩:=hr;exact⟨q,h.call h1,h2⟩
   . rename_i hb;rw[if_neg hb];exact h.call hr
 | succ m =>
   rw[hp]at hr
   cases m with
   |zero=>exact h.call hr
   | succ m =>
    cases m with
    |succ m =>
     replace hr:zdd a f vs hs=some r:=hr;show zdd b f vs hs=some r;simp only[zdd,zq]at hr ⊢;obtain⟨q,h1,h2⟩:=hr;exact⟨q,h.call h1,h2⟩
    |zero =>
     replace hr:orc (a.call f vs hs) (fun args'=>zaW a f args' hs) (zaB hs vs)=some r:=hr;show orc (b.call f vs hs) (fun args'=>zaW b f args' hs) (zaB hs vs)=some r
     cases hs1:zaB hs vs with
     |none=>rw[hs1]at hr;exact h.call hr
     | some args' =>
       rw[hs1]at hr;replace hr:zaW a f args' hs=some r:=hr;show zaW b f args' hs=some r;simp only[zaW,zq,zA]at hr ⊢;obtain⟨q,h1,h2⟩:=hr;exact⟨q,h.call h1,h2⟩
theorem zyL(h:EvLe a b){f:FuncId}{vs:List V}{r:V×HS}(hr:zfI E a f vs hs=some r):zfI E b f vs hs=some r:=by
 unfold zfI at hr ⊢
 cases hq:E.con f vs hs with
 |none=>rw[hq]at hr;exact zwb h hr
 |some q=>rw[hq]at hr;exact hr
theorem zrt(h:EvLe a b){id:Nat}{vs:List V}{r:V×HS}(hr:zdq a id vs hs=some r):zdq b id vs hs=some r:=by
 simp only[zdq,zq,zA]at hr ⊢;obtain⟨o,h1,l,h2,h3,T,h4,q,h5,h6,o1,h7,l1,h8,h9,p,h10,h11⟩:=hr;exact⟨o,h1,l,h2,h3,T,h4,q,h.code h5,h6,o1,h7,l1,h8,h9,p,h.code h10,h11⟩
theorem zfn(h:EvLe a b){dr:Bool}{id:Nat}{o:Oper}{r:V×HS}(hr:stepJ E a dr T hs id o=some r):stepJ E b dr T hs id o=some r:=by
 unfold stepJ at hr ⊢
 cases hc:zbI o.op with
 |none=>rw[hc]at hr;exact hr
 | some c =>
   rw[hc]at hr;replace hr:zcj E a T hs id c=some r:=hr;show zcj E b T hs id c=some r;simp only[zcj,zq]at hr ⊢;obtain⟨vs,h1,h2⟩:=hr;refine⟨vs,h1,?_⟩
   cases hcal:c.callee with
   |builtin bb=>rw[hcal]at h2;exact h2
   | value x =>
     rw[hcal]at h2;simp only[zq]at h2 ⊢;obtain⟨v,h3,h4⟩:=h2;refine⟨v,h3,?_⟩;unfold zhg at h4 ⊢
     cases v with
     |func f cs=>exact zyL h h4
     |yld id=>exact zrt h h4
     |_=>cases h4
   |invoke x n=>rw[hcal]at h2;cases h2
theorem zlW(h:EvLe a b){sz id:Nat}{ops:List Oper}{o:Oper}{r:PT V×HS}(hr:zcz E a sz ops o id T hs=some r):zcz E b sz ops o id T hs=some r:=by
 simp only[zcz,zq]at hr ⊢;obtain⟨w,h1,h2⟩:=hr;refine⟨w,h1,?_⟩;rw[zaz]at h2 ⊢;split at h2
 . rename_i hw;rw[if_pos hw];simp only[zA,zq]at h2 ⊢;obtain⟨h3,q,h4,h5⟩:=h2;exact⟨h3,q,zfn h h4,h5⟩
 . rename_i hw;rw[if_neg hw];exact h2
theorem zjt(h:EvLe a b){sz:Nat}{ops:List Oper}:∀ {l:List Oper} {id:Nat} {T:PT V} {hs:HS} {r:PT V×HS},zbZ E a sz ops l id T hs=some r->zbZ E b sz ops l id T hs=some r:=by
 intro l
 induction l with
 |nil=>intro id T hs r hr;exact hr
 | cons o l ih =>
   intro id T hs r hr;replace hr:(ob (zcz E a sz ops o id T hs) fun r=>zbZ E a sz ops l (id+1) r.1 r.2)=some r:=hr;show (ob (zcz E b sz ops o id T hs) fun r=>zbZ E b sz ops l (id+1) r.1 r.2)=some r;simp only[zq]at hr ⊢;obtain⟨q,h1,h2⟩:=hr;exact⟨q,zlW h h1,ih h2⟩
theorem zvL(h:EvLe a b){o:Oper}{id:Nat}{r:V×HS×List Nat×List Nat}(hr:zd2 E a o id T hs=some r):zd2 E b o id T hs=some r:=by
 unfold zd2 at hr ⊢
 cases hc:zM o.op with
 | zero =>
   rw[hc]at hr;replace hr:(ob (stepJ E a true T { H:=zan hs.H (readsOf T o.op),n:=0,log:=[] } id o) fun r=>some (r.1,hs,readsOf T o.op,[]))=some r:=hr;show (ob (stepJ E b true T { H:=zan hs.H (readsOf T o.op),n:=0,log:=[] } id o) fun r=>some (r.1,hs,readsOf T o.op,[]))=some r;simp only[zq]at hr ⊢;obtain⟨q,h1,h2⟩:=hr;exact⟨q,zfn h h1,h2⟩
 | succ m =>
   rw[hc]at hr
   cases m with
   | zero =>
     replace hr:(gd (zab hs id) (ob (stepJ E a true T { H:=.leaf,n:=0,log:=[] } id o) fun r=>ob (r.2.H.get id) fun o'=>gd (nt o'.fz) (some (r.1,hs.put id o',[id],[]))))=some r:=hr;show (gd (zab hs id) (ob (stepJ E b true T { H:=.leaf,n:=0,log:=[] } id o) fun r=>ob (r.2.H.get id) fun o'=>gd (nt o'.fz) (some (r.1,hs.put id o',[id],[]))))=some r;simp only[zq,zA]at hr ⊢;obtain⟨h0,q,h1,h2⟩:=hr;exact⟨h0,q,zfn h h1,h2⟩
   | succ m =>
     replace hr:(gd (zab hs id) (ob (stepJ E a true T { H:=hs.H,n:=hs.n,log:=[] } id o) fun r=>some (r.1,{ H:=r.2.H,n:=r.2.n,log:=zbB r.2.log hs.log },[],r.2.log)))=some r:=hr;show (gd (zab hs id) (ob (stepJ E b true T { H:=hs.H,n:=hs.n,log:=[] } id o) fun r=>some (r.1,{ H:=r.2.H,n:=r.2.n,log:=zbB r.2.log hs.log },[],r.2.log)))=some r;simp only[zq,zA]at hr ⊢;obtain⟨h0,q,h1,h2⟩:=hr;exact⟨h0,q,zfn h h1,h2⟩
theorem zqf(h:EvLe a b){o:Oper}{id:Nat}{r:V×HS×List Nat×List Nat}(hr:zdc E a o id T hs=some r):zdc E b o id T hs=some r:=by
 unfold zdc at hr ⊢;rw[zaz]at hr ⊢;split at hr
 . rename_i hs0;rw[if_pos hs0];simp only[zjH,zq,zA]at hr ⊢;obtain⟨h0,q,h1,h2⟩:=hr;exact⟨h0,q,zfn h h1,h2⟩
 . rename_i hs0;rw[if_neg hs0];exact zvL h hr
theorem zpA(h:EvLe a b){sz:Nat}{ops:List Oper}:∀ {l:List Oper} {id:Nat} {T:PT V} {hs:HS} {acc:List (List Nat×List Nat)} {r:(PT V×HS)×List (List Nat×List Nat)},
 zct E a sz ops l id T hs acc=some r->zct E b sz ops l id T hs acc=some r:=by
 intro l
 induction l with
 |nil=>intro id T hs acc r hr;exact hr
 | cons o l ih =>
   intro id T hs acc r hr;replace hr:(ob (zaA E a ops o id (zan T (looks ops o)) hs) fun r=>ob (zmP sz T o.dst r.1) fun T'=>zct E a sz ops l (id+1) T' r.2.1 (zbB acc [r.2.2]))=some r:=hr;show (ob (zaA E b ops o id (zan T (looks ops o)) hs) fun r=>ob (zmP sz T o.dst r.1) fun T'=>zct E b sz ops l (id+1) T' r.2.1 (zbB acc [r.2.2]))=some r;simp only[zq]at hr ⊢;obtain⟨q,h1,T',h2,h3⟩:=hr;refine⟨q,?_,T',h2,ih h3⟩;simp only[zaA,zq]at h1 ⊢;obtain⟨w,h4,h5⟩:=h1;refine⟨w,h4,?_⟩;rw[zaz]at h5 ⊢;split at h5
   . rename_i hw;rw[if_pos hw];exact zqf h h5
   . rename_i hw;rw[if_neg hw];exact h5
theorem z9B(h:EvLe a b){sz:Nat}{l:List Oper}{draw:Bool}{r:Ex×PT V×HS}(hr:z9C E a sz l draw T hs=some r):z9C E b sz l draw T hs=some r:=by
 simp only[z9C,zq]at hr ⊢;obtain⟨q,h1,h2⟩:=hr;refine⟨q,?_,h2⟩;rw[zaz]at h1 ⊢;split at h1
 . rename_i hd;rw[if_pos hd];simp only[zm0,zq,zA]at h1 ⊢;obtain⟨bs,h3,p,h4,h5⟩:=h1;exact⟨bs,h3,p,zpA h h4,h5⟩
 . rename_i hd;rw[if_neg hd];exact zjt h h1
theorem zrp(h:EvLe a b){rd:Bool}{sz:Nat}{c:Code}{q r:Ex×PT V×HS}(hr:zmO a rd sz c q=some r):zmO b rd sz c q=some r:=by
 unfold zmO at hr ⊢
 cases hq:q.1 with
 |normal=>rw[hq]at hr;exact h.code hr
 |ret=>rw[hq]at hr;exact hr
 |exit i=>rw[hq]at hr;exact hr
theorem zyD(h:EvLe a b){rd:Bool}{sz:Nat}{c:Code}{r:Ex×PT V×HS}(hr:zmA E a rd sz c T hs=some r):zmA E b rd sz c T hs=some r:=by
 cases c<;>simp only[zmA]at hr ⊢<;>first|exact hr|exact z9B h hr|skip
 case seq x y =>
  simp only[zq]at hr ⊢;obtain⟨q,h1,h2⟩:=hr;exact⟨q,h.code h1,zrp h h2⟩
 case cond q x y =>
  simp only[zq]at hr ⊢;obtain⟨v,h1,t,h2,h3⟩:=hr;refine⟨v,h1,t,h2,?_⟩;rw[zaz]at h3 ⊢;split at h3
  . rename_i hw;rw[if_pos hw];exact h.code h3
  . rename_i hw;rw[if_neg hw];exact h.code h3
 case block id body =>
  simp only[zq]at hr ⊢;obtain⟨q,h1,h2⟩:=hr;exact⟨q,h.code h1,h2⟩
 case loop body =>
  simp only[zq]at hr ⊢;obtain⟨q,h1,h2⟩:=hr;exact⟨q,h.code h1,zrp h h2⟩
 case rangeFunc g ps assign body =>
  simp only[zA,zq,zhC]at hr ⊢;obtain⟨h1,v,h2,p,h3,h4,q,h5,h6⟩:=hr;exact⟨h1,v,h2,p,h3,h4,q,h.call h5,h6⟩
theorem zyS(h:EvLe a b){f:FuncId}{vs:List V}{r:V×HS}(hr:zji E a f vs hs=some r):zji E b f vs hs=some r:=by
 simp only[zji,zq]at hr ⊢;obtain⟨fn,h1,c,h2,T,h3,q,h4,h5⟩:=hr;exact⟨fn,h1,c,h2,T,h3,q,h.code h4,h5⟩
theorem zoX(E:Env):∀ n,EvLe (evJ E n) (evJ E (n+1)):=by
 intro n
 induction n with
 |zero=>exact⟨fun h=>(by cases h),fun h=>(by cases h)⟩
 |succ n ih=>exact⟨fun h=>zyD ih h,fun h=>zyS ih h⟩
theorem zg1(E:Env){m n:Nat}(h:m<=n):EvLe (evJ E m) (evJ E n):=by
 induction h with
 |refl=>exact⟨fun h=>h,fun h=>h⟩
 |step _ ih=>exact⟨fun h=>(zoX E _).code (ih.code h),fun h=>(zoX E _).call (ih.call h)⟩
end
end Go.J
/- Symbolic runs of the evaluator: a small calculus. -/
namespace Go.J
def ok{α:Type}(x:Option α)(K:α->Prop):Prop:=∃ a,x=some a/\K a
theorem zG{α:Type}(a:α)(K:α->Prop):ok (some a) K=K a:=propext ⟨fun ⟨b,h,k⟩=>by cases h;exact k,fun k=>⟨a,rfl,k⟩⟩
theorem zal{α β:Type}(x:Option α)(f:α->Option β)(K:β->Prop):ok (ob x f) K=ok x fun a=>ok (f a) K:=by
 cases x with
 |none=>exact propext ⟨fun ⟨b,h,_⟩=>(by cases h),fun ⟨b,h,_⟩=>(by cases h)⟩
 |some a=>rw[zO,zG]
theorem zca{α:Type}(c:Bool)(x:Option α)(K:α->Prop):ok (gd c x) K=(c=true/\ok x K):=by
 cases c with
 |true=>rw[zbA];simp
 |false=>rw[zoH];exact propext ⟨fun ⟨b,h,_⟩=>(by cases h),fun ⟨h,_⟩=>(by cases h)⟩
theorem zcv{α:Type}{x:Option α}{K K':α->Prop}(h:ok x K)(hk:∀ a,K a->K' a):ok x K':=let ⟨a,h1,h2⟩:=h;⟨a,h1,hk a h2⟩
def br(c A B:Prop):Prop:=(c->A)/\(¬ c->B)
theorem zBv(c:Prop) [Decidable c](A B:Prop):br c A B=if c then A else B:=by
 by_cases h:c<;>simp[br,h]
theorem zwd(A B:Prop):br True A B=A:=by simp[br]
theorem zpg(A B:Prop):br False A B=B:=by simp[br]
section
variable {E:Env}{rd:Bool}{sz:Nat}{T:PT V}{hs:HS}{Q:Ex->PT V->HS->Prop}
def Jc(E:Env)(rd:Bool)(sz:Nat)(c:Code)(T:PT V)(hs:HS)(Q:Ex->PT V->HS->Prop):Prop :=
 ∃ n ex T' hs',(evJ E n).code rd sz c T hs=some (ex,T',hs')/\Q ex T' hs'
def Ex.then(K:PT V->HS->Prop)(Q:Ex->PT V->HS->Prop):Ex->PT V->HS->Prop
 |.normal,T,hs=>K T hs
 |.ret,T,hs=>Q .ret T hs
 |.exit i,T,hs=>Q (.exit i) T hs
def Ex.inBlock(id:Nat)(Q:Ex->PT V->HS->Prop):Ex->PT V->HS->Prop
 |.normal,T,hs=>Q .normal T hs
 |.ret,T,hs=>Q .ret T hs
 |.exit i,T,hs=>if i=id then Q .normal T hs else Q (.exit i) T hs
theorem zi9{c:Code}{Q':Ex->PT V->HS->Prop}(h:Jc E rd sz c T hs Q)(hq:∀ e T hs,Q e T hs->Q' e T hs):Jc E rd sz c T hs Q' :=
 let ⟨n,e,T',hs',h1,h2⟩:=h;⟨n,e,T',hs',h1,hq _ _ _ h2⟩
theorem zBE(h:Q .normal T hs):Jc E rd sz .skip T hs Q:=⟨1,_,_,_,rfl,h⟩
theorem zBG{id:Nat}(h:Q (.exit id) T hs):Jc E rd sz (.exit id) T hs Q:=⟨1,_,_,_,rfl,h⟩
theorem zIm(h:Q .ret T hs):Jc E rd sz .ret T hs Q:=⟨1,_,_,_,rfl,h⟩
theorem zIl{a b:Code}(h:Jc E rd sz a T hs (Ex.then (fun T hs=>Jc E rd sz b T hs Q) Q)):Jc E rd sz (.seq a b) T hs Q:=by
 obtain⟨n,e,T1,hs1,h1,h2⟩:=h
 cases e with
 | normal =>
   obtain⟨m,e2,T2,hs2,h3,h4⟩:=h2;refine⟨max n m+1,e2,T2,hs2,?_,h4⟩;show (ob ((evJ E (max n m)).code rd sz a T hs) fun r=>zmO (evJ E (max n m)) rd sz b r)=_;rw[(zg1 E (Nat.le_max_left n m)).code h1,zO];exact(zg1 E (Nat.le_max_right n m)).code h3
 |ret=>exact⟨n+1,.ret,T1,hs1,by show (ob ((evJ E n).code rd sz a T hs) fun r=>zmO (evJ E n) rd sz b r)=_;rw[h1,zO];rfl,h2⟩
 |exit i=>exact⟨n+1,.exit i,T1,hs1,by show (ob ((evJ E n).code rd sz a T hs) fun r=>zmO (evJ E n) rd sz b r)=_;rw[h1,zO];rfl,h2⟩
theorem zBF{c:Code}(h:Jc E rd sz c T hs (Ex.then (fun T hs=>Jc E rd sz (.loop c) T hs Q) Q)):Jc E rd sz (.loop c) T hs Q:=by
 obtain⟨n,e,T1,hs1,h1,h2⟩:=h
 cases e with
 | normal =>
   obtain⟨m,e2,T2,hs2,h3,h4⟩:=h2;refine⟨max n m+1,e2,T2,hs2,?_,h4⟩;show (ob ((evJ E (max n m)).code rd sz c T hs) fun r=>zmO (evJ E (max n m)) rd sz (.loop c) r)=_;rw[(zg1 E (Nat.le_max_left n m)).code h1,zO];exact(zg1 E (Nat.le_max_right n m)).code h3
 |ret=>exact⟨n+1,.ret,T1,hs1,by show (ob ((evJ E n).code rd sz c T hs) fun r=>zmO (evJ E n) rd sz (.loop c) r)=_;rw[h1,zO];rfl,h2⟩
 |exit i=>exact⟨n+1,.exit i,T1,hs1,by show (ob ((evJ E n).code rd sz c T hs) fun r=>zmO (evJ E n) rd sz (.loop c) r)=_;rw[h1,zO];rfl,h2⟩
theorem zBH{q:Operand}{a b:Code}{t:Bool}(hq:zF T q=some (.bool t))(h1:t=true->Jc E rd sz a T hs Q)(h2:t=false->Jc E rd sz b T hs Q):Jc E rd sz (.cond q a b) T hs Q:=by
 have key:∀ n,(evJ E (n+1)).code rd sz (.cond q a b) T hs=bi t ((evJ E n).code rd sz a T hs) ((evJ E n).code rd sz b T hs):=by
  intro n;show (ob (zF T q) fun v=>ob v.bool? fun t=>bi t ((evJ E n).code rd sz a T hs) ((evJ E n).code rd sz b T hs))=_;rw[hq];rfl
 cases t with
 | true =>
   obtain⟨n,e,T1,hs1,h3,h4⟩:=h1 rfl;exact⟨n+1,e,T1,hs1,by rw[key];exact h3,h4⟩
 | false =>
   obtain⟨n,e,T1,hs1,h3,h4⟩:=h2 rfl;exact⟨n+1,e,T1,hs1,by rw[key];exact h3,h4⟩
theorem zzh{id:Nat}{c:Code}(h:Jc E rd sz c T hs (Ex.inBlock id Q)):Jc E rd sz (.block id c) T hs Q:=by
 obtain⟨n,e,T1,hs1,h1,h2⟩:=h
 have key:(evJ E (n+1)).code rd sz (.block id c) T hs=zmE id (e,T1,hs1):=by
  show (ob ((evJ E n).code rd sz c T hs) fun r=>zmE id r)=_;rw[h1];rfl
 cases e with
 |normal=>exact⟨n+1,_,_,_,key,h2⟩
 |ret=>exact⟨n+1,_,_,_,key,h2⟩
 | exit i =>
   by_cases hi:i=id
   . refine⟨n+1,.normal,T1,hs1,?_,by simpa [Ex.inBlock,hi]using h2⟩;rw[key];show bi (Nat.beq i id) _ _=_;rw[zaz,if_pos (beq_true.2 hi)]
   . refine⟨n+1,.exit i,T1,hs1,?_,by simpa [Ex.inBlock,hi]using h2⟩;rw[key];show bi (Nat.beq i id) _ _=_;rw[zaz,if_neg (fun h=>hi (beq_true.1 h))]
def Ro(E:Env)(sz:Nat)(ops l:List Oper)(id:Nat)(T:PT V)(hs:HS)(Q:PT V->HS->Prop):Prop:=∃ n T' hs',zbZ E (evJ E n) sz ops l id T hs=some (T',hs')/\Q T' hs'
theorem zmK{id:Nat}{ops:List Oper}(h:Ro E sz ops ops hs.n T { H:=hs.H,n:=hs.n+ops.length,log:=hs.log } fun T hs=>Q .normal T hs):Jc E rd sz (.region id ops.toArray false) T hs Q:=by
 obtain⟨n,T1,hs1,h1,h2⟩:=h;refine⟨n+1,.normal,T1,hs1,?_,h2⟩;show (ob (bi false _ (zbZ E (evJ E n) sz ops ops hs.n T { H:=hs.H,n:=hs.n+zR ops,log:=hs.log })) fun r=>some (Ex.normal,r.1,r.2))=_;rw[zX,zN,h1];rfl
variable {ops l:List Oper}{id:Nat}{R:PT V->HS->Prop}
theorem zIf:Ro E sz ops [] id T hs R=R T hs:=propext ⟨fun ⟨_,_,_,h1,h2⟩=>by cases h1;exact h2,fun h=>⟨0,T,hs,rfl,h⟩⟩
theorem zoe{o:Oper}(h:∃ n r,zcz E (evJ E n) sz ops o id T hs=some r/\Ro E sz ops l (id+1) r.1 r.2 R):Ro E sz ops (o::l) id T hs R:=by
 obtain⟨n,⟨T1,hs1⟩,h1,m,T2,hs2,h2,h3⟩:=h;refine⟨max n m,T2,hs2,?_,h3⟩;show (ob (zcz E (evJ E (max n m)) sz ops o id T hs) fun r=>zbZ E (evJ E (max n m)) sz ops l (id+1) r.1 r.2)=_;rw[zlW (zg1 E (Nat.le_max_left n m)) h1,zO];exact zjt (zg1 E (Nat.le_max_right n m)) h2
def put(sz:Nat)(T:PT V)(d:Option Tmp)(v:V)(K:PT V->Prop):Prop :=
 match d with
 |none=>K T
 |some d=>d<sz/\K (T.set d v)
theorem znv{d:Option Tmp}{v:V}{K:PT V->Prop}(h:put sz T d v K):∃ T',zmP sz T d v=some T'/\K T':=by
 cases d with
 |none=>exact⟨T,rfl,h⟩
 |some d=>exact⟨T.set d v,by show gd (Nat.blt d sz) _=_;rw[blt_true.2 h.1];rfl,h.2⟩
end
theorem zx4{E:Env}{f:FuncId}{fn:Func}{c:Code}{vs:List V}{hs:HS}{T:PT V}{K:V->HS->Prop}(hf:E.P.funcs[f]?=some fn)(hb:fn.body=some c)(he:zbg fn.ntmps vs 0 .leaf=some T)
 (h:Jc E false fn.ntmps c T hs fun ex T' hs'=>(∀ i,ex≠.exit i)/\ok (zo1 E.P T' hs' fn.results.toList) fun l=>K (zcR l) hs'):∃ n v hs',(evJ E n).call f vs hs=some (v,hs')/\K v hs':=by
 obtain⟨n,ex,T',hs',h1,h2,l,h3,h4⟩:=h;refine⟨n+1,zcR l,hs',?_,h4⟩;show (ob (E.P.funcs[f]?) fun fn=>ob fn.body fun c=>ob (zbg fn.ntmps vs 0 .leaf) fun T=>ob ((evJ E n).code false fn.ntmps c T hs) fun r=>zlP E.P fn r)=_;rw[hf,zO,hb,zO,he,zO,h1,zO];unfold zlP
 cases ex with
 |exit i=>exact absurd rfl (h2 i)
 |normal=>dsimp only;rw[h3];rfl
 |ret=>dsimp only;rw[h3];rfl
end Go.J
/- Code without what the evaluator does not look at;symbolic runs of it. -/
namespace Go.J
structure SOp where
 d:Option Tmp
 op:Op
 g:Option (Tmp×Bool)
structure SD where
 d:Option Tmp
 op:Op
 g:Option (Tmp×Bool)
 lk:List Nat
inductive SC where
 |draw (l:List SD) (bs:List Nat)
 |skip|ret
 |exit (id:Nat)
 |reg (l:List SOp)
 |seq (a b:SC)
 |cond (q:Operand) (a b:SC)
 |block (id:Nat) (a:SC)
 |loop (a:SC)
 |range (g:Operand) (ps:Array Tmp) (a b:SC)
def zho (ops:List Oper):Option (Nat×Bool)->Option (Option (Tmp×Bool))
 |none=>some none
 | some (j,w)=>match ops[j]? with
   | some p=>match p.dst with
     |some d=>some (some (d,w))
     |none=>none
   |none=>none
def stripL (ops:List Oper):List Oper->Option (List SOp)
 | []=>some []
 | o::l=>match zho ops o.guard,stripL ops l with
   |some g,some r=>some (⟨o.dst,o.op,g⟩::r)
   |_,_=>none
def zhp (ops:List Oper):List Oper->Option (List SD)
 | []=>some []
 | o::l=>match zho ops o.guard,zhp ops l with
   |some g,some r=>some (⟨o.dst,o.op,g,looks ops o⟩::r)
   |_,_=>none
def zx:Code->Option SC
 | .region _ ops true=>match zhp ops.toList ops.toList,zmz ops.toList with
   |some l,some bs=>some (.draw l bs)
   |_,_=>none
 |.skip=>some .skip
 |.ret=>some .ret
 |.exit i=>some (.exit i)
 | .region _ ops false=>match stripL ops.toList ops.toList with
   |some l=>some (.reg l)
   |none=>none
 | .seq a b=>match zx a,zx b with
   |some a,some b=>some (.seq a b)
   |_,_=>none
 | .cond q a b=>match zx a,zx b with
   |some a,some b=>some (.cond q a b)
   |_,_=>none
 | .block i a=>match zx a with
   |some a=>some (.block i a)
   |none=>none
 | .loop a=>match zx a with
   |some a=>some (.loop a)
   |none=>none
 | .rangeFunc g ps a b=>match zx a,zx b with
   |some a,some b=>some (.range g ps a b)
   |_,_=>none
 |_=>none
section
variable {E:Env}{rd:Bool}{sz:Nat}{T:PT V}{hs:HS}{Q:Ex->PT V->HS->Prop}
def V.guard? (v:V)(w:Bool):Option Bool:=match v with
 |.bool b=>some b
 |.tuple []=>some (!w)
 |_=>none
def V.wantB(v:V)(w:Bool):Option Bool:=match v with
 |.bool b=>some (zd4 b w)
 |.tuple []=>some false
 |_=>none
theorem V.guard?_want {v:V}{w q:Bool}(h:v.guard? w=some q):v.wantB w=some (zd4 q w):=by
 unfold V.guard? at h;split at h
 . cases h;rfl
 . cases h;cases w<;>rfl
 . cases h
def wpO (E:Env) (id:Nat) (T:PT V) (hs:HS) (op:Op) (K:V->HS->Prop):Prop :=
 match op with
 | .call c=>match c.callee with
   |.builtin b=>(zM op≠0->hs.H.get id=none)/\ok (zaJ T c.args.toList) fun vs=>ok (zb5 E.P hs id b c.argTypes.toList vs) fun r=>K r.1 r.2
   |.value x=>hs.H.get id=none/\ok (zF T x) fun v=>ok (funcOf v) fun p=>ok (zaJ T c.args.toList) fun vs=>ok (E.con p.1 (zbB vs p.2) hs) fun r=>K r.1 r.2
   |.invoke _ _=>False
 |op=>(zM op≠0->hs.H.get id=none)/\ok (opJ E.P false T hs id (opR op)) fun r=>K r.1 r.2
def wpS(E:Env)(id:Nat)(T:PT V)(hs:HS)(s:SOp)(K:V->HS->Prop):Prop :=
 match s.g with
 |none=>wpO E id T hs s.op K
 |some (t,w)=>ok (T.get t) fun v=>ok (v.guard? w) fun q=>if q=w then wpO E id T hs s.op K else K undefV hs
def Rs(E:Env)(sz:Nat):List SOp->Nat->PT V->HS->(PT V->HS->Prop)->Prop
 | [],_,T,hs,R=>R T hs
 |s::l,id,T,hs,R=>wpS E id T hs s fun v hs'=>put sz T s.d v fun T1=>Rs E sz l (id+1) T1 hs' R
theorem zwJ {id:Nat} {op:Op} {K:V->HS->Prop} (h:wpO E id T hs op K):(zM op≠0->hs.H.get id=none) /\
 ((zbI op=none/\ok (opJ E.P false T hs id (opR op)) fun r=>K r.1 r.2)\/(∃ c,zbI op=some c/\ok (zaJ T c.args.toList) fun vs =>
   (∃ b,c.callee=.builtin b/\ok (zb5 E.P hs id b c.argTypes.toList vs) fun r=>K r.1 r.2)\/∃ x f caps,c.callee=.value x/\zF T x=some (.func f caps)/\ok (E.con f (zbB vs caps) hs) fun r=>K r.1 r.2)):=by
 unfold wpO at h;split at h
 . rename_i c;split at h
   . rename_i b hb;exact⟨h.1,.inr ⟨c,rfl,zcv h.2 fun vs hv=>.inl ⟨b,hb,hv⟩⟩⟩
   . rename_i x hx;obtain⟨h1,v,hv,p,hp,vs,hvs,h2⟩:=h;obtain⟨f,caps⟩:=p
     have e:v=.func f caps:=by
      unfold funcOf at hp;split at hp
      . cases hp;rfl
      . cases hp
     subst e;exact⟨fun _=>h1,.inr ⟨c,rfl,vs,hvs,.inr ⟨x,f,caps,hx,hv,h2⟩⟩⟩
   . exact h.elim
 . rename_i hne;refine⟨h.1,.inl ⟨?_,h.2⟩⟩;cases op<;>first|rfl|exact absurd rfl (hne _)
theorem z9u {ops:List Oper} {id:Nat} {o:Oper} {n:Nat} {K:PT V->HS->Prop} {q:Bool} (hw:zdg ops T o=some q)
 (h:if q=true then wpO E id T hs o.op (fun v hs'=>put sz T o.dst v fun T1=>K T1 hs')else put sz T o.dst undefV fun T1=>K T1 hs) :
 ∃ r,zcz E (evJ E n) sz ops o id T hs=some r/\K r.1 r.2:=by
 cases q with
 | false =>
   rw[if_neg (by simp)]at h;obtain⟨T1,h4,h5⟩:=znv h;refine⟨(T1,hs),?_,h5⟩;show (ob (zdg ops T o) fun w=>bi w _ _)=_;rw[hw,zO,zX,h4];rfl
 | true =>
   rw[if_pos rfl]at h;obtain⟨h1,h2⟩:=zwJ h
   have hv:bi (Nat.beq (zM o.op) 0) true (zab hs id)=true:=by
    rw[zaz];split
    . rfl
    . rename_i hne;exact vacant_eq.2 (h1 fun e=>hne (beq_true.2 e))
   have fin:∀ r:V×HS,stepJ E (evJ E n) false T hs id o=some r->(put sz T o.dst r.1 fun T1=>K T1 r.2)->∃ r,zcz E (evJ E n) sz ops o id T hs=some r/\K r.1 r.2:=by
    intro r hst hp;obtain⟨T1,h4,h5⟩:=znv hp;refine⟨(T1,r.2),?_,h5⟩;show (ob (zdg ops T o) fun w=>bi w _ _)=_;rw[hw,zO,zai,hv,zbA,hst,zO,h4];rfl
   rcases h2 with⟨hc,r,h2,h3⟩|⟨c,hc,vs,hvs,h2⟩
   . exact fin r (by unfold stepJ;rw[hc];exact h2) h3
   . rcases h2 with⟨b,hb,r,h2,h3⟩|⟨x,f,caps,hx,hxv,r,h2,h3⟩
     . refine fin r ?_ h3;unfold stepJ;rw[hc];show (ob (zaJ T c.args.toList) fun vs=>_)=_;rw[hvs,zO,hb];exact h2
     . refine fin r ?_ h3;unfold stepJ;rw[hc];show (ob (zaJ T c.args.toList) fun vs=>_)=_;rw[hvs,zO,hx];show (ob (zF T x) fun v=>zhg E (evJ E n) v vs hs)=_;rw[hxv,zO];show zfI E (evJ E n) f (zbB vs caps) hs=some r;unfold zfI;rw[h2,za6]
theorem zB4 {ops:List Oper}:∀ {l:List Oper} {s:List SOp} {id:Nat} {T:PT V} {hs:HS} {R:PT V->HS->Prop},stripL ops l=some s->Rs E sz s id T hs R->Ro E sz ops l id T hs R:=by
 intro l
 induction l with
 | nil =>
   intro s id T hs R h hr;cases h;rw[zIf];exact hr
 | cons o l ih =>
   intro s id T hs R h hr;unfold stripL at h;split at h
   . rename_i g r hg hl;cases h;have hr':wpS E id T hs ⟨o.dst,o.op,g⟩ fun v hs'=>put sz T o.dst v fun T1=>Rs E sz r (id+1) T1 hs' R:=hr
     unfold wpS at hr'
     have hst:∃ q,zdg ops T o=some q/\(if q=true then wpO E id T hs o.op (fun v hs'=>put sz T o.dst v fun T1=>Rs E sz r (id+1) T1 hs' R)else put sz T o.dst undefV fun T1=>Rs E sz r (id+1) T1 hs R):=by
      unfold zho at hg;split at hg
      . rename_i hgn;cases hg;refine⟨true,?_,by rw[if_pos rfl];exact hr'⟩;unfold zdg;rw[hgn];rfl
      . rename_i j w hgn;split at hg
        . rename_i p hp;split at hg
          . rename_i d hd;cases hg;obtain⟨v,hv,q,hq,h2⟩:=hr';refine⟨zd4 q w,?_,?_⟩
            . unfold zdg;rw[hgn,za6];show (ob (zeR ops j) fun p=>_)=_;rw[zbU,hp,zO,hd,zO,hv,zO];exact V.guard?_want hq
            . by_cases e:q=w
              . rw[if_pos e]at h2;rw[if_pos (by rw[e];cases w<;>rfl)];exact h2
              . rw[if_neg e]at h2;rw[if_neg (by revert e;cases w<;>cases q<;>simp[zd4,bi,nt])];exact h2
          . cases hg
        . cases hg
     obtain⟨q,hw,h3⟩:=hst;obtain⟨r1,h4,h5⟩:=z9u (n:=0) hw h3;exact zoe ⟨0,r1,h4,ih hl h5⟩
   . cases h
def Js(E:Env)(rd:Bool)(sz:Nat)(s:SC)(T:PT V)(hs:HS)(Q:Ex->PT V->HS->Prop):Prop:=∀ c,zx c=some s->Jc E rd sz c T hs Q
theorem zBC{s:SC}{Q':Ex->PT V->HS->Prop}(h:Js E rd sz s T hs Q)(hq:∀ e T hs,Q e T hs->Q' e T hs):Js E rd sz s T hs Q':=fun c hc=>zi9 (h c hc) hq
theorem zah{c:Code}{s:SC}(h:zx c=some s):match s with
 |.draw l bs=>∃ id ops,c=.region id ops true/\zhp ops.toList ops.toList=some l/\zmz ops.toList=some bs
 |.skip=>c=.skip
 |.ret=>c=.ret
 |.exit i=>c=.exit i
 |.reg l=>∃ id ops,c=.region id ops false/\stripL ops.toList ops.toList=some l
 |.seq a b=>∃ x y,c=.seq x y/\zx x=some a/\zx y=some b
 |.cond q a b=>∃ x y,c=.cond q x y/\zx x=some a/\zx y=some b
 |.block i a=>∃ x,c=.block i x/\zx x=some a
 |.loop a=>∃ x,c=.loop x/\zx x=some a
 |.range g ps a b=>∃ x y,c=.rangeFunc g ps x y/\zx x=some a/\zx y=some b:=by
 cases c with
 |skip=>cases h;rfl
 |ret=>cases h;rfl
 |exit i=>cases h;rfl
 | region id ops draw =>
   cases draw with
   | true =>
     unfold zx at h;split at h
     . rename_i l bs hl hb;cases h;exact⟨id,ops,rfl,hl,hb⟩
     . cases h
   | false =>
     unfold zx at h;split at h
     . rename_i l hl;cases h;exact⟨id,ops,rfl,hl⟩
     . cases h
 | seq x y =>
   unfold zx at h;split at h
   . rename_i a b ha hb;cases h;exact⟨x,y,rfl,ha,hb⟩
   . cases h
 | cond q x y =>
   unfold zx at h;split at h
   . rename_i a b ha hb;cases h;exact⟨x,y,rfl,ha,hb⟩
   . cases h
 | block i x =>
   unfold zx at h;split at h
   . rename_i a ha;cases h;exact⟨x,rfl,ha⟩
   . cases h
 | rangeFunc g ps x y =>
   unfold zx at h;split at h
   . rename_i a b ha hb;cases h;exact⟨x,y,rfl,ha,hb⟩
   . cases h
 | loop x =>
   unfold zx at h;split at h
   . rename_i a ha;cases h;exact⟨x,rfl,ha⟩
   . cases h
 |_=>cases h
theorem zof(h:Q .normal T hs):Js E rd sz .skip T hs Q:=fun c hc=>by have e:c=.skip:=zah hc;rw[e];exact zBE h
theorem zIk(h:Q .ret T hs):Js E rd sz .ret T hs Q:=fun c hc=>by have e:c=.ret:=zah hc;rw[e];exact zIm h
theorem zww{i:Nat}(h:Q (.exit i) T hs):Js E rd sz (.exit i) T hs Q:=fun c hc=>by have e:c=.exit i:=zah hc;rw[e];exact zBG h
theorem zg4{a b:SC}(h:Js E rd sz a T hs (Ex.then (fun T hs=>Js E rd sz b T hs Q) Q)):Js E rd sz (.seq a b) T hs Q:=fun c hc=>by
 obtain⟨x,y,rfl,hx,hy⟩:=zah hc;refine zIl (zi9 (h x hx) fun e T hs he=>?_)
 cases e with
 |normal=>exact he y hy
 |ret=>exact he
 |exit i=>exact he
theorem zkJ{q:Operand}{a b:SC}{t:Bool}(hq:zF T q=some (.bool t))(h1:t=true->Js E rd sz a T hs Q)(h2:t=false->Js E rd sz b T hs Q):Js E rd sz (.cond q a b) T hs Q:=fun c hc=>by
 obtain⟨x,y,rfl,hx,hy⟩:=zah hc;exact zBH hq (fun h=>h1 h x hx) (fun h=>h2 h y hy)
theorem zkK{id:Nat}{a:SC}(h:Js E rd sz a T hs (Ex.inBlock id Q)):Js E rd sz (.block id a) T hs Q:=fun c hc=>by
 obtain⟨x,rfl,hx⟩:=zah hc;exact zzh (h x hx)
theorem zwv{a:SC}(h:Js E rd sz a T hs (Ex.then (fun T hs=>Js E rd sz (.loop a) T hs Q) Q)):Js E rd sz (.loop a) T hs Q:=fun c hc=>by
 obtain⟨x,rfl,hx⟩:=zah hc;refine zBF (zi9 (h x hx) fun e T hs he=>?_)
 cases e with
 |normal=>exact he _ hc
 |ret=>exact he
 |exit i=>exact he
theorem zjP{l:List SOp}(h:Rs E sz l hs.n T { H:=hs.H,n:=hs.n+l.length,log:=hs.log } fun T hs=>Q .normal T hs):Js E rd sz (.reg l) T hs Q:=fun c hc=>by
 obtain⟨id,ops,rfl,hl⟩:=zah hc
 have hlen:∀ {m:List Oper} {s:List SOp},stripL ops.toList m=some s->s.length=m.length:=by
  intro m
  induction m with
  |nil=>intro s h;cases h;rfl
  | cons o m ih =>
    intro s h;unfold stripL at h;split at h
    . rename_i g r hg hr;cases h;simp[ih hr]
    . cases h
 rw[hlen hl]at h;have:=zmK (id:=id) (rd:=rd) (Q:=Q) (zB4 hl h);simpa using this
end
section
variable {E:Env}{rd:Bool}{sz:Nat}{T:PT V}{hs:HS}{Q:Ex->PT V->HS->Prop}
def zDV (E:Env) (id:Nat) (T:PT V) (hs:HS) (op:Op) (K:V->HS->List Nat×List Nat->Prop):Prop :=
 match zM op with
 | 0 => match op with
   | .call c=>match c.callee with
     |.builtin b=>ok (zaJ T c.args.toList) fun vs=>ok (zb5 E.P { H:=zan hs.H (readsOf T op),n:=0,log:=[] } id b c.argTypes.toList vs) fun r=>K r.1 hs (readsOf T op,[])
     |_=>False
   |op=>ok (opJ E.P true T { H:=zan hs.H (readsOf T op),n:=0,log:=[] } id (opR op)) fun r=>K r.1 hs (readsOf T op,[])
 | 1=>hs.H.get id=none/\ok (opJ E.P true T { H:=.leaf,n:=0,log:=[] } id (opR op)) fun r=>ok (r.2.H.get id) fun o'=>o'.fz=false/\K r.1 (hs.put id o') ([id],[])
 | _ => hs.H.get id=none/\(match op with
   | .call c=>match c.callee with
     |.builtin b=>ok (zaJ T c.args.toList) fun vs=>ok (zb5 E.P { H:=hs.H,n:=hs.n,log:=[] } id b c.argTypes.toList vs) fun r=>K r.1 { H:=r.2.H,n:=r.2.n,log:=zbB r.2.log hs.log } ([],r.2.log)
     |.value x=>ok (zF T x) fun v=>ok (funcOf v) fun p=>ok (zaJ T c.args.toList) fun vs=>ok (E.con p.1 (zbB vs p.2) { H:=hs.H,n:=hs.n,log:=[] }) fun r=>K r.1 { H:=r.2.H,n:=r.2.n,log:=zbB r.2.log hs.log } ([],r.2.log)
     |.invoke _ _=>False
   |op=>ok (opJ E.P true T { H:=hs.H,n:=hs.n,log:=[] } id (opR op)) fun r=>K r.1 { H:=r.2.H,n:=r.2.n,log:=zbB r.2.log hs.log } ([],r.2.log))
def wpD(E:Env)(id:Nat)(T:PT V)(hs:HS)(op:Op)(K:V->HS->List Nat×List Nat->Prop):Prop :=
 match op with
 |.store t a x=>hs.H.get id=none/\ok (zaU E.P T { H:=zan hs.H (zbS T hs (.store t a x)),n:=0,log:=[] } t a x) fun r=>K r.1 { H:=zl1 hs.H r.2.H (zbS T hs (.store t a x)),n:=hs.n,log:=zbB r.2.log hs.log } (zbS T hs (.store t a x),r.2.log)
 |op=>zDV E id T hs op K
def z8H(E:Env)(id:Nat)(T:PT V)(hs:HS)(s:SD)(K:V->HS->List Nat×List Nat->Prop):Prop :=
 match s.g with
 |none=>wpD E id T hs s.op K
 |some (t,w)=>ok (T.get t) fun v=>ok (v.guard? w) fun q=>if q=w then wpD E id T hs s.op K else K undefV hs ([],[])
def Rd(E:Env)(sz:Nat):List SD->Nat->PT V->HS->List (List Nat×List Nat)->(PT V->HS->List (List Nat×List Nat)->Prop)->Prop
 | [],_,T,hs,acc,R=>R T hs acc
 |s::l,id,T,hs,acc,R=>z8H E id (zan T s.lk) hs s fun v hs' rw=>put sz T s.d v fun T1=>Rd E sz l (id+1) T1 hs' (zbB acc [rw]) R
theorem zwK {id:Nat} {o:Oper} {n:Nat} {K:V->HS->List Nat×List Nat->Prop} (h:zDV E id T hs o.op K):∃ r,zd2 E (evJ E n) o id T hs=some r/\K r.1 r.2.1 r.2.2:=by
 unfold zDV at h
 have hcall:∀ {hs0:HS} {c:Call} {b:Builtin} {vs:List V} {r:V×HS},zbI o.op=some c->c.callee=.builtin b->zaJ T c.args.toList=some vs->zb5 E.P hs0 id b c.argTypes.toList vs=some r->stepJ E (evJ E n) true T hs0 id o=some r:=by
  intro hs0 c b vs r h1 h2 h3 h4;unfold stepJ;rw[h1];show (ob (zaJ T c.args.toList) fun vs=>_)=_;rw[h3,zO,h2];exact h4
 have hop:∀ {hs0:HS} {r:V×HS},zbI o.op=none->opJ E.P true T hs0 id (opR o.op)=some r->stepJ E (evJ E n) true T hs0 id o=some r:=by
  intro hs0 r h1 h2;unfold stepJ;rw[h1];exact h2
 have hnone:∀ {op:Op},(∀ c,op≠.call c)->zbI op=none:=by
  intro op h;cases op<;>first|rfl|exact absurd rfl (h _)
 split at h
 . rename_i hc
   have key:∀ r:V×HS,stepJ E (evJ E n) true T { H:=zan hs.H (readsOf T o.op),n:=0,log:=[] } id o=some r->zd2 E (evJ E n) o id T hs=some (r.1,hs,readsOf T o.op,[]):=by
    intro r hr;unfold zd2;rw[hc];show (ob (stepJ E (evJ E n) true T { H:=zan hs.H (readsOf T o.op),n:=0,log:=[] } id o) fun r=>some (r.1,hs,readsOf T o.op,[]))=_;rw[hr];rfl
   split at h
   . rename_i c hcc;split at h
     . rename_i b hb;obtain⟨vs,hvs,r,hr,hk⟩:=h;have hco:zbI o.op=some c:=by rw[hcc];rfl
       exact⟨_,key r (hcall hco hb hvs hr),hk⟩
     . exact h.elim
   . rename_i hne;obtain⟨r,hr,hk⟩:=h;exact⟨_,key r (hop (hnone hne) hr),hk⟩
 . rename_i hc;obtain⟨h0,r,hr,o',ho,hz,hk⟩:=h;refine⟨(r.1,hs.put id o',[id],[]),?_,hk⟩;unfold zd2;rw[hc];show (gd (zab hs id) (ob (stepJ E (evJ E n) true T { H:=.leaf,n:=0,log:=[] } id o) fun r=>ob (r.2.H.get id) fun o'=>gd (nt o'.fz) (some (r.1,hs.put id o',[id],[]))))=_;rw[vacant_eq.2 h0,zbA,hop (ziw hc) hr,zO,ho,zO,hz];rfl
 . rename_i hc0 hc1;obtain⟨h0,h⟩:=h
   have hc:zM o.op=2:=by
    rcases zjz o.op with h|h|h
    . exact absurd h hc0
    . exact absurd h hc1
    . exact h
   have key:∀ r:V×HS,stepJ E (evJ E n) true T { H:=hs.H,n:=hs.n,log:=[] } id o=some r->zd2 E (evJ E n) o id T hs=some (r.1,{ H:=r.2.H,n:=r.2.n,log:=zbB r.2.log hs.log },[],r.2.log):=by
    intro r hr;unfold zd2;rw[hc];show (gd (zab hs id) (ob (stepJ E (evJ E n) true T { H:=hs.H,n:=hs.n,log:=[] } id o) fun r=>some (r.1,({ H:=r.2.H,n:=r.2.n,log:=zbB r.2.log hs.log }:HS),([]:List Nat),r.2.log)))=_;rw[vacant_eq.2 h0,zbA,hr];rfl
   split at h
   . rename_i c hcc;have hco:zbI o.op=some c:=by rw[hcc];rfl
     split at h
     . rename_i b hb;obtain⟨vs,hvs,r,hr,hk⟩:=h;exact⟨_,key r (hcall hco hb hvs hr),hk⟩
     . rename_i x hx;obtain⟨v,hv,p,hp,vs,hvs,r,hr,hk⟩:=h;obtain⟨f,caps⟩:=p
       have e:v=.func f caps:=by
        unfold funcOf at hp;split at hp
        . cases hp;rfl
        . cases hp
       subst e;refine⟨_,key r ?_,hk⟩;unfold stepJ;rw[hco];show (ob (zaJ T c.args.toList) fun vs=>_)=_;rw[hvs,zO,hx];show (ob (zF T x) fun v=>zhg E (evJ E n) v vs _)=_;rw[hv,zO];show zfI E (evJ E n) f (zbB vs caps) _=some r;unfold zfI;rw[hr,za6]
     . exact h.elim
   . rename_i hne;obtain⟨r,hr,hk⟩:=h;exact⟨_,key r (hop (hnone hne) hr),hk⟩
theorem zq9{id:Nat}{o:Oper}{n:Nat}{K:V->HS->List Nat×List Nat->Prop}(h:wpD E id T hs o.op K):∃ r,zdc E (evJ E n) o id T hs=some r/\K r.1 r.2.1 r.2.2:=by
 unfold wpD at h;unfold zdc;split at h
 . rename_i t a x hop;obtain⟨h0,r,hr,hk⟩:=h;have hs0:zaK o.op=true:=by rw[hop];rfl
   rw[hs0,zai];unfold zjH;rw[vacant_eq.2 h0,zbA,hop,zcG hop,hr,zO];exact⟨_,rfl,hk⟩
 . rename_i hne
   have hs0:zaK o.op=false:=by
    unfold zaK;split
    . rename_i t a x e;exact absurd e (hne t a x)
    . rfl
   rw[hs0,zX];exact zwK h
theorem zOE {ops:List Oper} {n:Nat}:∀ {l:List Oper} {s:List SD} {id:Nat} {T:PT V} {hs:HS} {acc:List (List Nat×List Nat)} {R:PT V->HS->List (List Nat×List Nat)->Prop},zhp ops l=some s->Rd E sz s id T hs acc R ->
 ∃ T' hs' acc',zct E (evJ E n) sz ops l id T hs acc=some ((T',hs'),acc')/\R T' hs' acc':=by
 intro l
 induction l with
 | nil =>
   intro s id T hs acc R h hr;cases h;exact⟨T,hs,acc,rfl,hr⟩
 | cons o l ih =>
   intro s id T hs acc R h hr;unfold zhp at h;split at h
   . rename_i g r hg hl;cases h;have hr':z8H E id (zan T (looks ops o)) hs ⟨o.dst,o.op,g,looks ops o⟩ fun v hs' rw=>put sz T o.dst v fun T1=>Rd E sz r (id+1) T1 hs' (zbB acc [rw]) R:=hr
     unfold z8H at hr'
     have hst:∃ q,zaA E (evJ E n) ops o id (zan T (looks ops o)) hs=some q/\put sz T o.dst q.1 fun T1=>Rd E sz r (id+1) T1 q.2.1 (zbB acc [q.2.2]) R:=by
      unfold zho at hg;split at hg
      . rename_i hgn;cases hg;obtain⟨q,h1,h2⟩:=zq9 (n:=n) hr';refine⟨q,?_,h2⟩;have hw:zdg ops (zan T (looks ops o)) o=some true:=by unfold zdg;rw[hgn];rfl
        unfold zaA;rw[hw,zO,zai];exact h1
      . rename_i j w hgn;split at hg
        . rename_i p hp;split at hg
          . rename_i d hd;cases hg;obtain⟨v,hv,q,hq,h2⟩:=hr'
            have hw:zdg ops (zan T (looks ops o)) o=some (zd4 q w):=by
             unfold zdg;rw[hgn,za6];show (ob (zeR ops j) fun p=>_)=_;rw[zbU,hp,zO,hd,zO,hv,zO];exact V.guard?_want hq
            by_cases e:q=w
            . rw[if_pos e]at h2;obtain⟨q1,h3,h4⟩:=zq9 (n:=n) h2;refine⟨q1,?_,h4⟩;unfold zaA;rw[hw,zO,show zd4 q w=true by rw[e];cases w<;>rfl,zai];exact h3
            . rw[if_neg e]at h2;refine⟨(undefV,hs,[],[]),?_,h2⟩;unfold zaA;rw[hw,zO,show zd4 q w=false by revert e;cases w<;>cases q<;>simp[zd4,bi,nt],zX]
          . cases hg
        . cases hg
     obtain⟨q,h1,h2⟩:=hst;obtain⟨T1,h3,h4⟩:=znv h2;obtain⟨T',hs',acc',h5,h6⟩:=ih hl h4;refine⟨T',hs',acc',?_,h6⟩;show (ob (zaA E (evJ E n) ops o id (zan T (looks ops o)) hs) fun r=>ob (zmP sz T o.dst r.1) fun T'=>zct E (evJ E n) sz ops l (id+1) T' r.2.1 (zbB acc [r.2.2]))=_;rw[h1,zO,h3,zO];exact h5
   . cases h
theorem zwx{l:List SD}{bs:List Nat}(h:Rd E sz l hs.n T { H:=hs.H,n:=hs.n+l.length,log:=hs.log } [] fun T hs acc=>zcm acc acc 0 bs=true/\Q .normal T hs):Js E rd sz (.draw l bs) T hs Q:=fun c hc=>by
 obtain⟨id,ops,rfl,hl,hb⟩:=zah hc
 have hlen:∀ {m:List Oper} {s:List SD},zhp ops.toList m=some s->s.length=m.length:=by
  intro m
  induction m with
  |nil=>intro s h;cases h;rfl
  | cons o m ih =>
    intro s h;unfold zhp at h;split at h
    . rename_i g r hg hr;cases h;simp[ih hr]
    . cases h
 rw[hlen hl]at h;obtain⟨T',hs',acc',h1,h2,h3⟩:=zOE (n:=0) hl h;refine⟨1,.normal,T',hs',?_,h3⟩;show (ob (bi true (zm0 E (evJ E 0) sz ops.toList T hs) _) fun r=>some (Ex.normal,r.1,r.2))=_;rw[zai]
 have hd:zm0 E (evJ E 0) sz ops.toList T hs=some (T',hs'):=by
  show (ob (zmz ops.toList) fun bs=>ob (zct E (evJ E 0) sz ops.toList ops.toList hs.n T { H:=hs.H,n:=hs.n+zR ops.toList,log:=hs.log } []) fun r=>gd (zcm r.2 r.2 0 bs) (some r.1))=_;rw[hb,zO,zN,h1,zO,h2,zbA]
 rw[hd];rfl
end
theorem zrs{E:Env}{f:FuncId}{fn:Func}{s:SC}{vs:List V}{hs:HS}{T:PT V}{K:V->HS->Prop}(hf:E.P.funcs[f]?=some fn)(hb:fn.body.bind zx=some s)(he:zbg fn.ntmps vs 0 .leaf=some T)
 (h:Js E false fn.ntmps s T hs fun ex T' hs'=>(∀ i,ex≠.exit i)/\ok (zo1 E.P T' hs' fn.results.toList) fun l=>K (zcR l) hs'):∃ n v hs',(evJ E n).call f vs hs=some (v,hs')/\K v hs':=by
 cases hc:fn.body with
 |none=>rw[hc]at hb;cases hb
 |some c=>rw[hc]at hb;exact zx4 hf hc he (h c hb)
def Leaves(P:Program)(fn:Func)(K:V->HS->Prop)(ex:Ex)(T:PT V)(hs:HS):Prop:=(∀ i,ex≠.exit i)/\ok (zo1 P T hs fn.results.toList) fun l=>K (zcR l) hs
def Gives(r:V)(v:V)(hs:HS):Prop:=still hs v=some r
theorem zjO{P:Program}{fn:Func}{K:V->HS->Prop}{T:PT V}{hs:HS}:Leaves P fn K .ret T hs=ok (zo1 P T hs fn.results.toList) fun l=>K (zcR l) hs :=
 propext ⟨fun h=>h.2,fun h=>⟨fun i h=>(by cases h),h⟩⟩
theorem zfN{P:Program}{fn:Func}{K:V->HS->Prop}{T:PT V}{hs:HS}:Leaves P fn K .normal T hs=ok (zo1 P T hs fn.results.toList) fun l=>K (zcR l) hs :=
 propext ⟨fun h=>h.2,fun h=>⟨fun i h=>(by cases h),h⟩⟩
end Go.J
