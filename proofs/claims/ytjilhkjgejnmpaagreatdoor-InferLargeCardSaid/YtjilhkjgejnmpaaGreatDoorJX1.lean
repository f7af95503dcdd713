import Derived.Test.YtjilhkjgejnmpaaGreatDoorJE
set_option linter.all false
noncomputable section
/- More depth changes no result. -/
namespace Go.J
structure EvLe(a b:Ev):Prop where
 code:∀ {rd sz c T hs r},a.code rd sz c T hs=some r→b.code rd sz c T hs=some r
 call:∀ {f vs hs r},a.call f vs hs=some r→b.call f vs hs=some r
section
variable {E:Env}{a b:Ev}{T:PT V}{hs:HS}
theorem callBy_le (h:EvLe a b) {f:FuncId} {vs:List V} {r:V×HS} (hr:callBy E a f vs hs=some r):callBy E b f vs hs=some r:=by
 unfold callBy at hr ⊢
 cases hp:E.pol f with
 | zero =>
   rw[hp]at hr
   replace hr:bi (allPure vs) (callPure a f vs hs) (a.call f vs hs)=some r:=hr
   show bi (allPure vs) (callPure b f vs hs) (b.call f vs hs)=some r
   rw[bi_eq]at hr ⊢
   split at hr
   · rename_i hb
     rw[if_pos hb]
     simp only[callPure,ob_eq]at hr ⊢
     obtain⟨q,h1,h2⟩:=hr
     exact⟨q,h.call h1,h2⟩
   · rename_i hb
     rw[if_neg hb];exact h.call hr
 | succ m =>
   rw[hp]at hr
   cases m with
   |zero=>exact h.call hr
   | succ m =>
    cases m with
    |succ m =>
     replace hr:callPur a f vs hs=some r:=hr
     show callPur b f vs hs=some r
     simp only[callPur,ob_eq]at hr ⊢
     obtain⟨q,h1,h2⟩:=hr
     exact⟨q,h.call h1,h2⟩
    |zero =>
     replace hr:orc (a.call f vs hs) (fun args'=>callScal a f args' hs) (stillA hs vs)=some r:=hr
     show orc (b.call f vs hs) (fun args'=>callScal b f args' hs) (stillA hs vs)=some r
     cases hs1:stillA hs vs with
     |none=>rw[hs1]at hr;exact h.call hr
     | some args' =>
       rw[hs1]at hr
       replace hr:callScal a f args' hs=some r:=hr
       show callScal b f args' hs=some r
       simp only[callScal,ob_eq,gd_eq]at hr ⊢
       obtain⟨q,h1,h2⟩:=hr
       exact⟨q,h.call h1,h2⟩
theorem callJ_le(h:EvLe a b){f:FuncId}{vs:List V}{r:V×HS}(hr:callJ E a f vs hs=some r):callJ E b f vs hs=some r:=by
 unfold callJ at hr ⊢
 cases hq:E.con f vs hs with
 |none=>rw[hq]at hr;exact callBy_le h hr
 |some q=>rw[hq]at hr;exact hr
theorem roundJ_le(h:EvLe a b){id:Nat}{vs:List V}{r:V×HS}(hr:roundJ a id vs hs=some r):roundJ b id vs hs=some r:=by
 simp only[roundJ,ob_eq,gd_eq]at hr ⊢
 obtain⟨o,h1,l,h2,h3,T,h4,q,h5,h6,o1,h7,l1,h8,h9,p,h10,h11⟩:=hr
 exact⟨o,h1,l,h2,h3,T,h4,q,h.code h5,h6,o1,h7,l1,h8,h9,p,h.code h10,h11⟩
theorem stepJ_le(h:EvLe a b){dr:Bool}{id:Nat}{o:Oper}{r:V×HS}(hr:stepJ E a dr T hs id o=some r):stepJ E b dr T hs id o=some r:=by
 unfold stepJ at hr ⊢
 cases hc:callOf o.op with
 |none=>rw[hc]at hr;exact hr
 | some c =>
   rw[hc]at hr
   replace hr:stepCall E a T hs id c=some r:=hr
   show stepCall E b T hs id c=some r
   simp only[stepCall,ob_eq]at hr ⊢
   obtain⟨vs,h1,h2⟩:=hr
   refine⟨vs,h1,?_⟩
   cases hcal:c.callee with
   |builtin bb=>rw[hcal]at h2;exact h2
   | value x =>
     rw[hcal]at h2
     simp only[ob_eq]at h2 ⊢
     obtain⟨v,h3,h4⟩:=h2
     refine⟨v,h3,?_⟩
     unfold valueJ at h4 ⊢
     grind [callJ_le,id,roundJ_le]
   |invoke x n=>rw[hcal]at h2;cases h2
theorem goStep_le(h:EvLe a b){sz id:Nat}{ops:List Oper}{o:Oper}{r:PT V×HS}(hr:goStep E a sz ops o id T hs=some r):goStep E b sz ops o id T hs=some r:=by
 simp only[goStep,ob_eq]at hr ⊢
 obtain⟨w,h1,h2⟩:=hr
 refine⟨w,h1,?_⟩
 grind [bi_eq,gd_eq,ob_eq,stepJ_le]
theorem regionJ_le(h:EvLe a b){sz:Nat}{ops:List Oper}:∀ {l:List Oper} {id:Nat} {T:PT V} {hs:HS} {r:PT V×HS},regionJ E a sz ops l id T hs=some r→regionJ E b sz ops l id T hs=some r:=by
 intro l
 induction l with
 |nil=>intro id T hs r hr;exact hr
 | cons o l ih =>
   intro id T hs r hr
   replace hr:(ob (goStep E a sz ops o id T hs) fun r=>regionJ E a sz ops l (id+1) r.1 r.2)=some r:=hr
   show (ob (goStep E b sz ops o id T hs) fun r=>regionJ E b sz ops l (id+1) r.1 r.2)=some r
   grind [ob_eq,goStep_le]
theorem drawOp_le(h:EvLe a b){o:Oper}{id:Nat}{r:V×HS×List Nat×List Nat}(hr:drawOp E a o id T hs=some r):drawOp E b o id T hs=some r:=by
 unfold drawOp at hr ⊢
 cases hc:opClass o.op with
 | zero =>
   rw[hc]at hr
   replace hr:(ob (stepJ E a true T { H:=pickT hs.H (readsOf T o.op),n:=0,log:=[] } id o) fun r=>some (r.1,hs,readsOf T o.op,[]))=some r:=hr
   show (ob (stepJ E b true T { H:=pickT hs.H (readsOf T o.op),n:=0,log:=[] } id o) fun r=>some (r.1,hs,readsOf T o.op,[]))=some r
   grind [ob_eq,stepJ_le]
 | succ m =>
   rw[hc]at hr
   cases m with
   | zero =>
     replace hr:(gd (vacant hs id) (ob (stepJ E a true T { H:=.leaf,n:=0,log:=[] } id o) fun r=>ob (r.2.H.get id) fun o'=>gd (nt o'.fz) (some (r.1,hs.put id o',[id],[]))))=some r:=hr
     show (gd (vacant hs id) (ob (stepJ E b true T { H:=.leaf,n:=0,log:=[] } id o) fun r=>ob (r.2.H.get id) fun o'=>gd (nt o'.fz) (some (r.1,hs.put id o',[id],[]))))=some r
     grind [ob_eq,gd_eq,stepJ_le]
   | succ m =>
     replace hr:(gd (vacant hs id) (ob (stepJ E a true T { H:=hs.H,n:=hs.n,log:=[] } id o) fun r=>some (r.1,{ H:=r.2.H,n:=r.2.n,log:=appL r.2.log hs.log },[],r.2.log)))=some r:=hr
     show (gd (vacant hs id) (ob (stepJ E b true T { H:=hs.H,n:=hs.n,log:=[] } id o) fun r=>some (r.1,{ H:=r.2.H,n:=r.2.n,log:=appL r.2.log hs.log },[],r.2.log)))=some r
     grind [ob_eq,gd_eq,stepJ_le]
theorem drawRun_le(h:EvLe a b){o:Oper}{id:Nat}{r:V×HS×List Nat×List Nat}(hr:drawRun E a o id T hs=some r):drawRun E b o id T hs=some r:=by
 grind [drawRun,bi_eq,drawSt,ob_eq,gd_eq,stepJ_le,drawOp_le]
theorem regionD_le(h:EvLe a b){sz:Nat}{ops:List Oper}:∀ {l:List Oper} {id:Nat} {T:PT V} {hs:HS} {acc:List (List Nat×List Nat)} {r:(PT V×HS)×List (List Nat×List Nat)},
 regionD E a sz ops l id T hs acc=some r→regionD E b sz ops l id T hs acc=some r:=by
 intro l
 induction l with
 |nil=>intro id T hs acc r hr;exact hr
 | cons o l ih =>
   intro id T hs acc r hr
   replace hr:(ob (drawStep E a ops o id (pickT T (looks ops o)) hs) fun r=>ob (putJ sz T o.dst r.1) fun T'=>regionD E a sz ops l (id+1) T' r.2.1 (appL acc [r.2.2]))=some r:=hr
   show (ob (drawStep E b ops o id (pickT T (looks ops o)) hs) fun r=>ob (putJ sz T o.dst r.1) fun T'=>regionD E b sz ops l (id+1) T' r.2.1 (appL acc [r.2.2]))=some r
   simp only[ob_eq]at hr ⊢
   obtain⟨q,h1,T',h2,h3⟩:=hr
   refine⟨q,?_,T',h2,ih h3⟩
   simp only[drawStep,ob_eq]at h1 ⊢
   obtain⟨w,h4,h5⟩:=h1
   refine⟨w,h4,?_⟩
   grind [bi_eq,drawRun_le]
theorem regJ_le(h:EvLe a b){sz:Nat}{l:List Oper}{draw:Bool}{r:Ex×PT V×HS}(hr:regJ E a sz l draw T hs=some r):regJ E b sz l draw T hs=some r:=by
 grind [regJ,ob_eq,bi_eq,drawJ,gd_eq,regionD_le,regionJ_le]
theorem seqJ_le(h:EvLe a b){rd:Bool}{sz:Nat}{c:Code}{q r:Ex×PT V×HS}(hr:seqJ a rd sz c q=some r):seqJ b rd sz c q=some r:=by
 unfold seqJ at hr ⊢
 cases hq:q.1 with
 |normal=>rw[hq]at hr;exact h.code hr
 |ret=>rw[hq]at hr;exact hr
 |exit i=>rw[hq]at hr;exact hr
theorem codeJ_le(h:EvLe a b){rd:Bool}{sz:Nat}{c:Code}{r:Ex×PT V×HS}(hr:codeJ E a rd sz c T hs=some r):codeJ E b rd sz c T hs=some r:=by
 cases c<;>simp only[codeJ]at hr ⊢<;>first|exact hr|exact regJ_le h hr|skip
 case seq x y =>
  simp only[ob_eq]at hr ⊢
  obtain⟨q,h1,h2⟩:=hr
  exact⟨q,h.code h1,seqJ_le h h2⟩
 case cond q x y =>
  simp only[ob_eq]at hr ⊢
  obtain⟨v,h1,t,h2,h3⟩:=hr
  refine⟨v,h1,t,h2,?_⟩
  rw[bi_eq]at h3 ⊢
  split at h3
  · rename_i hw
    rw[if_pos hw];exact h.code h3
  · rename_i hw
    rw[if_neg hw];exact h.code h3
 case block id body =>
  simp only[ob_eq]at hr ⊢
  obtain⟨q,h1,h2⟩:=hr
  exact⟨q,h.code h1,h2⟩
 case loop body =>
  simp only[ob_eq]at hr ⊢
  obtain⟨q,h1,h2⟩:=hr
  exact⟨q,h.code h1,seqJ_le h h2⟩
 case rangeFunc g ps assign body =>
  simp only[gd_eq,ob_eq,rangeJ]at hr ⊢
  obtain⟨h1,v,h2,p,h3,h4,q,h5,h6⟩:=hr
  exact⟨h1,v,h2,p,h3,h4,q,h.call h5,h6⟩
theorem bodyJ_le(h:EvLe a b){f:FuncId}{vs:List V}{r:V×HS}(hr:bodyJ E a f vs hs=some r):bodyJ E b f vs hs=some r:=by
 simp only[bodyJ,ob_eq]at hr ⊢
 obtain⟨fn,h1,c,h2,T,h3,q,h4,h5⟩:=hr
 exact⟨fn,h1,c,h2,T,h3,q,h.code h4,h5⟩
theorem evJ_succ(E:Env):∀ n,EvLe (evJ E n) (evJ E (n+1)):=by
 intro n
 induction n with
 |zero=>exact⟨fun h=>(by cases h),fun h=>(by cases h)⟩
 |succ n ih=>exact⟨fun h=>codeJ_le ih h,fun h=>bodyJ_le ih h⟩
theorem evJ_le(E:Env){m n:Nat}(h:m≤n):EvLe (evJ E m) (evJ E n):=by
 induction h with
 |refl=>exact⟨fun h=>h,fun h=>h⟩
 |step _ ih=>exact⟨fun h=>(evJ_succ E _).code (ih.code h),fun h=>(evJ_succ E _).call (ih.call h)⟩
end
end Go.J
/- Symbolic runs of the evaluator: a small calculus. -/
namespace Go.J
def ok{α:Type}(x:Option α)(K:α→Prop):Prop:=∃ a,x=some a∧K a
theorem ok_some{α:Type}(a:α)(K:α→Prop):ok (some a) K=K a:=propext ⟨fun ⟨b,h,k⟩=>by cases h;exact k,fun k=>⟨a,rfl,k⟩⟩
theorem ok_ob{α β:Type}(x:Option α)(f:α→Option β)(K:β→Prop):ok (ob x f) K=ok x fun a=>ok (f a) K:=by
 cases x with
 |none=>exact propext ⟨fun ⟨b,h,_⟩=>(by cases h),fun ⟨b,h,_⟩=>(by cases h)⟩
 |some a=>rw[ob_some,ok_some]
theorem ok_gd{α:Type}(c:Bool)(x:Option α)(K:α→Prop):ok (gd c x) K=(c=true∧ok x K):=by
 cases c with
 |true=>rw[gd_true];simp
 |false=>rw[gd_false];exact propext ⟨fun ⟨b,h,_⟩=>(by cases h),fun ⟨h,_⟩=>(by cases h)⟩
theorem ok_mono{α:Type}{x:Option α}{K K':α→Prop}(h:ok x K)(hk:∀ a,K a→K' a):ok x K':=let ⟨a,h1,h2⟩:=h;⟨a,h1,hk a h2⟩
def br(c A B:Prop):Prop:=(c→A)∧(¬ c→B)
theorem br_eq(c:Prop) [Decidable c](A B:Prop):br c A B=if c then A else B:=by
 grind [br]
theorem br_true(A B:Prop):br True A B=A:=by simp[br]
theorem br_false(A B:Prop):br False A B=B:=by simp[br]
section
variable {E:Env}{rd:Bool}{sz:Nat}{T:PT V}{hs:HS}{Q:Ex→PT V→HS→Prop}
def Jc(E:Env)(rd:Bool)(sz:Nat)(c:Code)(T:PT V)(hs:HS)(Q:Ex→PT V→HS→Prop):Prop :=
 ∃ n ex T' hs',(evJ E n).code rd sz c T hs=some (ex,T',hs')∧Q ex T' hs'
def Ex.then(K:PT V→HS→Prop)(Q:Ex→PT V→HS→Prop):Ex→PT V→HS→Prop
 |.normal,T,hs=>K T hs
 |.ret,T,hs=>Q .ret T hs
 |.exit i,T,hs=>Q (.exit i) T hs
def Ex.inBlock(id:Nat)(Q:Ex→PT V→HS→Prop):Ex→PT V→HS→Prop
 |.normal,T,hs=>Q .normal T hs
 |.ret,T,hs=>Q .ret T hs
 |.exit i,T,hs=>if i=id then Q .normal T hs else Q (.exit i) T hs
theorem Jc_mono{c:Code}{Q':Ex→PT V→HS→Prop}(h:Jc E rd sz c T hs Q)(hq:∀ e T hs,Q e T hs→Q' e T hs):Jc E rd sz c T hs Q' :=
 let ⟨n,e,T',hs',h1,h2⟩:=h;⟨n,e,T',hs',h1,hq _ _ _ h2⟩
theorem Jc_skip(h:Q .normal T hs):Jc E rd sz .skip T hs Q:=⟨1,_,_,_,rfl,h⟩
theorem Jc_exit{id:Nat}(h:Q (.exit id) T hs):Jc E rd sz (.exit id) T hs Q:=⟨1,_,_,_,rfl,h⟩
theorem Jc_ret(h:Q .ret T hs):Jc E rd sz .ret T hs Q:=⟨1,_,_,_,rfl,h⟩
theorem Jc_seq{a b:Code}(h:Jc E rd sz a T hs (Ex.then (fun T hs=>Jc E rd sz b T hs Q) Q)):Jc E rd sz (.seq a b) T hs Q:=by
 obtain⟨n,e,T1,hs1,h1,h2⟩:=h
 cases e with
 | normal =>
   obtain⟨m,e2,T2,hs2,h3,h4⟩:=h2
   refine⟨max n m+1,e2,T2,hs2,?_,h4⟩
   show (ob ((evJ E (max n m)).code rd sz a T hs) fun r=>seqJ (evJ E (max n m)) rd sz b r)=_
   rw[(evJ_le E (Nat.le_max_left n m)).code h1,ob_some]
   exact(evJ_le E (Nat.le_max_right n m)).code h3
 |ret=>exact⟨n+1,.ret,T1,hs1,by show (ob ((evJ E n).code rd sz a T hs) fun r=>seqJ (evJ E n) rd sz b r)=_;rw[h1,ob_some];rfl,h2⟩
 |exit i=>exact⟨n+1,.exit i,T1,hs1,by show (ob ((evJ E n).code rd sz a T hs) fun r=>seqJ (evJ E n) rd sz b r)=_;rw[h1,ob_some];rfl,h2⟩
theorem Jc_loop{c:Code}(h:Jc E rd sz c T hs (Ex.then (fun T hs=>Jc E rd sz (.loop c) T hs Q) Q)):Jc E rd sz (.loop c) T hs Q:=by
 obtain⟨n,e,T1,hs1,h1,h2⟩:=h
 cases e with
 | normal =>
   obtain⟨m,e2,T2,hs2,h3,h4⟩:=h2
   refine⟨max n m+1,e2,T2,hs2,?_,h4⟩
   show (ob ((evJ E (max n m)).code rd sz c T hs) fun r=>seqJ (evJ E (max n m)) rd sz (.loop c) r)=_
   rw[(evJ_le E (Nat.le_max_left n m)).code h1,ob_some]
   exact(evJ_le E (Nat.le_max_right n m)).code h3
 |ret=>exact⟨n+1,.ret,T1,hs1,by show (ob ((evJ E n).code rd sz c T hs) fun r=>seqJ (evJ E n) rd sz (.loop c) r)=_;rw[h1,ob_some];rfl,h2⟩
 |exit i=>exact⟨n+1,.exit i,T1,hs1,by show (ob ((evJ E n).code rd sz c T hs) fun r=>seqJ (evJ E n) rd sz (.loop c) r)=_;rw[h1,ob_some];rfl,h2⟩
theorem Jc_cond{q:Operand}{a b:Code}{t:Bool}(hq:evalO T q=some (.bool t))(h1:t=true→Jc E rd sz a T hs Q)(h2:t=false→Jc E rd sz b T hs Q):Jc E rd sz (.cond q a b) T hs Q:=by
 have key:∀ n,(evJ E (n+1)).code rd sz (.cond q a b) T hs=bi t ((evJ E n).code rd sz a T hs) ((evJ E n).code rd sz b T hs):=by
  intro n
  show (ob (evalO T q) fun v=>ob v.bool? fun t=>bi t ((evJ E n).code rd sz a T hs) ((evJ E n).code rd sz b T hs))=_
  rw[hq];rfl
 cases t with
 | true =>
   obtain⟨n,e,T1,hs1,h3,h4⟩:=h1 rfl
   exact⟨n+1,e,T1,hs1,by rw[key];exact h3,h4⟩
 | false =>
   obtain⟨n,e,T1,hs1,h3,h4⟩:=h2 rfl
   exact⟨n+1,e,T1,hs1,by rw[key];exact h3,h4⟩
theorem Jc_block{id:Nat}{c:Code}(h:Jc E rd sz c T hs (Ex.inBlock id Q)):Jc E rd sz (.block id c) T hs Q:=by
 obtain⟨n,e,T1,hs1,h1,h2⟩:=h
 have key:(evJ E (n+1)).code rd sz (.block id c) T hs=blockJ id (e,T1,hs1):=by
  show (ob ((evJ E n).code rd sz c T hs) fun r=>blockJ id r)=_
  rw[h1];rfl
 cases e with
 |normal=>exact⟨n+1,_,_,_,key,h2⟩
 |ret=>exact⟨n+1,_,_,_,key,h2⟩
 | exit i =>
   by_cases hi:i=id
   · refine⟨n+1,.normal,T1,hs1,?_,by simpa [Ex.inBlock,hi]using h2⟩
     rw[key];show bi (Nat.beq i id) _ _=_
     grind [bi_eq,beq_true]
   · refine⟨n+1,.exit i,T1,hs1,?_,by simpa [Ex.inBlock,hi]using h2⟩
     rw[key];show bi (Nat.beq i id) _ _=_
     grind [bi_eq,beq_true]
def Ro(E:Env)(sz:Nat)(ops l:List Oper)(id:Nat)(T:PT V)(hs:HS)(Q:PT V→HS→Prop):Prop:=∃ n T' hs',regionJ E (evJ E n) sz ops l id T hs=some (T',hs')∧Q T' hs'
theorem Jc_region{id:Nat}{ops:List Oper}(h:Ro E sz ops ops hs.n T { H:=hs.H,n:=hs.n+ops.length,log:=hs.log } fun T hs=>Q .normal T hs):Jc E rd sz (.region id ops.toArray false) T hs Q:=by
 obtain⟨n,T1,hs1,h1,h2⟩:=h
 refine⟨n+1,.normal,T1,hs1,?_,h2⟩
 show (ob (bi false _ (regionJ E (evJ E n) sz ops ops hs.n T { H:=hs.H,n:=hs.n+lenL ops,log:=hs.log })) fun r=>some (Ex.normal,r.1,r.2))=_
 rw[bi_false,lenL_eq,h1];rfl
variable {ops l:List Oper}{id:Nat}{R:PT V→HS→Prop}
theorem Ro_nil:Ro E sz ops [] id T hs R=R T hs:=propext ⟨fun ⟨_,_,_,h1,h2⟩=>by cases h1;exact h2,fun h=>⟨0,T,hs,rfl,h⟩⟩
theorem Ro_step{o:Oper}(h:∃ n r,goStep E (evJ E n) sz ops o id T hs=some r∧Ro E sz ops l (id+1) r.1 r.2 R):Ro E sz ops (o::l) id T hs R:=by
 obtain⟨n,⟨T1,hs1⟩,h1,m,T2,hs2,h2,h3⟩:=h
 refine⟨max n m,T2,hs2,?_,h3⟩
 show (ob (goStep E (evJ E (max n m)) sz ops o id T hs) fun r=>regionJ E (evJ E (max n m)) sz ops l (id+1) r.1 r.2)=_
 rw[goStep_le (evJ_le E (Nat.le_max_left n m)) h1,ob_some]
 exact regionJ_le (evJ_le E (Nat.le_max_right n m)) h2
def put(sz:Nat)(T:PT V)(d:Option Tmp)(v:V)(K:PT V→Prop):Prop :=
 match d with
 |none=>K T
 |some d=>d<sz∧K (T.set d v)
theorem putJ_of{d:Option Tmp}{v:V}{K:PT V→Prop}(h:put sz T d v K):∃ T',putJ sz T d v=some T'∧K T':=by
 cases d with
 |none=>exact⟨T,rfl,h⟩
 |some d=>exact⟨T.set d v,by show gd (Nat.blt d sz) _=_;rw[blt_true.2 h.1];rfl,h.2⟩
end
theorem run_body{E:Env}{f:FuncId}{fn:Func}{c:Code}{vs:List V}{hs:HS}{T:PT V}{K:V→HS→Prop}(hf:E.P.funcs[f]?=some fn)(hb:fn.body=some c)(he:enterJ fn.ntmps vs 0 .leaf=some T)
 (h:Jc E false fn.ntmps c T hs fun ex T' hs'=>(∀ i,ex≠.exit i)∧ok (resJ E.P T' hs' fn.results.toList) fun l=>K (tupleJ l) hs'):∃ n v hs',(evJ E n).call f vs hs=some (v,hs')∧K v hs':=by
 obtain⟨n,ex,T',hs',h1,h2,l,h3,h4⟩:=h
 refine⟨n+1,tupleJ l,hs',?_,h4⟩
 show (ob (E.P.funcs[f]?) fun fn=>ob fn.body fun c=>ob (enterJ fn.ntmps vs 0 .leaf) fun T=>ob ((evJ E n).code false fn.ntmps c T hs) fun r=>leaveJ E.P fn r)=_
 grind [ob_some,leaveJ]
end Go.J
/- Code without what the evaluator does not look at;symbolic runs of it. -/
namespace Go.J
structure SOp where
 d:Option Tmp
 op:Op
 g:Option (Tmp×Bool)
structure SD where
 d:Option Tmp
 op:Op
 g:Option (Tmp×Bool)
 lk:List Nat
inductive SC where
 |draw (l:List SD) (bs:List Nat)
 |skip|ret
 |exit (id:Nat)
 |reg (l:List SOp)
 |seq (a b:SC)
 |cond (q:Operand) (a b:SC)
 |block (id:Nat) (a:SC)
 |loop (a:SC)
 |range (g:Operand) (ps:Array Tmp) (a b:SC)
def stripG (ops:List Oper):Option (Nat×Bool)→Option (Option (Tmp×Bool))
 |none=>some none
 | some (j,w)=>match ops[j]? with
   | some p=>match p.dst with
     |some d=>some (some (d,w))
     |none=>none
   |none=>none
def stripL (ops:List Oper):List Oper→Option (List SOp)
 | []=>some []
 | o::l=>match stripG ops o.guard,stripL ops l with
   |some g,some r=>some (⟨o.dst,o.op,g⟩::r)
   |_,_=>none
def stripD (ops:List Oper):List Oper→Option (List SD)
 | []=>some []
 | o::l=>match stripG ops o.guard,stripD ops l with
   |some g,some r=>some (⟨o.dst,o.op,g,looks ops o⟩::r)
   |_,_=>none
def stripC:Code→Option SC
 | .region _ ops true=>match stripD ops.toList ops.toList,drawOk ops.toList with
   |some l,some bs=>some (.draw l bs)
   |_,_=>none
 |.skip=>some .skip
 |.ret=>some .ret
 |.exit i=>some (.exit i)
 | .region _ ops false=>match stripL ops.toList ops.toList with
   |some l=>some (.reg l)
   |none=>none
 | .seq a b=>match stripC a,stripC b with
   |some a,some b=>some (.seq a b)
   |_,_=>none
 | .cond q a b=>match stripC a,stripC b with
   |some a,some b=>some (.cond q a b)
   |_,_=>none
 | .block i a=>match stripC a with
   |some a=>some (.block i a)
   |none=>none
 | .loop a=>match stripC a with
   |some a=>some (.loop a)
   |none=>none
 | .rangeFunc g ps a b=>match stripC a,stripC b with
   |some a,some b=>some (.range g ps a b)
   |_,_=>none
 |_=>none
section
variable {E:Env}{rd:Bool}{sz:Nat}{T:PT V}{hs:HS}{Q:Ex→PT V→HS→Prop}
def V.guard? (v:V)(w:Bool):Option Bool:=match v with
 |.bool b=>some b
 |.tuple []=>some (!w)
 |_=>none
def V.wantB(v:V)(w:Bool):Option Bool:=match v with
 |.bool b=>some (boolEq b w)
 |.tuple []=>some false
 |_=>none
theorem V.guard?_want {v:V}{w q:Bool}(h:v.guard? w=some q):v.wantB w=some (boolEq q w):=by
 unfold V.guard? at h
 split at h
 · cases h;rfl
 · cases h;cases w<;>rfl
 · cases h
def wpO (E:Env) (id:Nat) (T:PT V) (hs:HS) (op:Op) (K:V→HS→Prop):Prop :=
 match op with
 | .call c=>match c.callee with
   |.builtin b=>(opClass op≠0→hs.H.get id=none)∧ok (evalL T c.args.toList) fun vs=>ok (builtinJ E.P hs id b c.argTypes.toList vs) fun r=>K r.1 r.2
   |.value x=>hs.H.get id=none∧ok (evalO T x) fun v=>ok (funcOf v) fun p=>ok (evalL T c.args.toList) fun vs=>ok (E.con p.1 (appL vs p.2) hs) fun r=>K r.1 r.2
   |.invoke _ _=>False
 |op=>(opClass op≠0→hs.H.get id=none)∧ok (opJ E.P false T hs id (opR op)) fun r=>K r.1 r.2
def wpS(E:Env)(id:Nat)(T:PT V)(hs:HS)(s:SOp)(K:V→HS→Prop):Prop :=
 match s.g with
 |none=>wpO E id T hs s.op K
 |some (t,w)=>ok (T.get t) fun v=>ok (v.guard? w) fun q=>if q=w then wpO E id T hs s.op K else K undefV hs
def Rs(E:Env)(sz:Nat):List SOp→Nat→PT V→HS→(PT V→HS→Prop)→Prop
 | [],_,T,hs,R=>R T hs
 |s::l,id,T,hs,R=>wpS E id T hs s fun v hs'=>put sz T s.d v fun T1=>Rs E sz l (id+1) T1 hs' R
theorem wpO_call {id:Nat} {op:Op} {K:V→HS→Prop} (h:wpO E id T hs op K):(opClass op≠0→hs.H.get id=none) ∧
 ((callOf op=none∧ok (opJ E.P false T hs id (opR op)) fun r=>K r.1 r.2)∨(∃ c,callOf op=some c∧ok (evalL T c.args.toList) fun vs =>
   (∃ b,c.callee=.builtin b∧ok (builtinJ E.P hs id b c.argTypes.toList vs) fun r=>K r.1 r.2)∨∃ x f caps,c.callee=.value x∧evalO T x=some (.func f caps)∧ok (E.con f (appL vs caps) hs) fun r=>K r.1 r.2)):=by
 unfold wpO at h
 split at h
 · rename_i c
   split at h
   · rename_i b hb
     exact⟨h.1,.inr ⟨c,rfl,ok_mono h.2 fun vs hv=>.inl ⟨b,hb,hv⟩⟩⟩
   · rename_i x hx
     obtain⟨h1,v,hv,p,hp,vs,hvs,h2⟩:=h
     obtain⟨f,caps⟩:=p
     have e:v=.func f caps:=by
      unfold funcOf at hp;split at hp
      · cases hp;rfl
      · cases hp
     subst e
     exact⟨fun _=>h1,.inr ⟨c,rfl,vs,hvs,.inr ⟨x,f,caps,hx,hv,h2⟩⟩⟩
   · exact h.elim
 · rename_i hne
   refine⟨h.1,.inl ⟨?_,h.2⟩⟩
   cases op<;>first|rfl|exact absurd rfl (hne _)
theorem step_of {ops:List Oper} {id:Nat} {o:Oper} {n:Nat} {K:PT V→HS→Prop} {q:Bool} (hw:wantJ ops T o=some q)
 (h:if q=true then wpO E id T hs o.op (fun v hs'=>put sz T o.dst v fun T1=>K T1 hs')else put sz T o.dst undefV fun T1=>K T1 hs) :
 ∃ r,goStep E (evJ E n) sz ops o id T hs=some r∧K r.1 r.2:=by
 cases q with
 | false =>
   rw[if_neg (by simp)]at h
   obtain⟨T1,h4,h5⟩:=putJ_of h
   refine⟨(T1,hs),?_,h5⟩
   show (ob (wantJ ops T o) fun w=>bi w _ _)=_
   rw[hw,ob_some,bi_false,h4];rfl
 | true =>
   rw[if_pos rfl]at h
   obtain⟨h1,h2⟩:=wpO_call h
   have hv:bi (Nat.beq (opClass o.op) 0) true (vacant hs id)=true:=by
    grind [bi_eq,vacant_eq,beq_true]
   have fin:∀ r:V×HS,stepJ E (evJ E n) false T hs id o=some r→(put sz T o.dst r.1 fun T1=>K T1 r.2)→∃ r,goStep E (evJ E n) sz ops o id T hs=some r∧K r.1 r.2:=by
    intro r hst hp
    obtain⟨T1,h4,h5⟩:=putJ_of hp
    refine⟨(T1,r.2),?_,h5⟩
    show (ob (wantJ ops T o) fun w=>bi w _ _)=_
    grind [ob_some,bi_true,gd_true]
   rcases h2 with⟨hc,r,h2,h3⟩|⟨c,hc,vs,hvs,h2⟩
   · exact fin r (by unfold stepJ;rw[hc];exact h2) h3
   · rcases h2 with⟨b,hb,r,h2,h3⟩|⟨x,f,caps,hx,hxv,r,h2,h3⟩
     · refine fin r ?_ h3
       unfold stepJ;rw[hc]
       show (ob (evalL T c.args.toList) fun vs=>_)=_
       grind [ob_some]
     · refine fin r ?_ h3
       unfold stepJ;rw[hc]
       show (ob (evalL T c.args.toList) fun vs=>_)=_
       grind [ob_some,ob,evalO,valueJ,evJ,callJ,appL,orc_some]
theorem Rs_ok {ops:List Oper}:∀ {l:List Oper} {s:List SOp} {id:Nat} {T:PT V} {hs:HS} {R:PT V→HS→Prop},stripL ops l=some s→Rs E sz s id T hs R→Ro E sz ops l id T hs R:=by
 intro l
 induction l with
 | nil =>
   intro s id T hs R h hr
   cases h
   rw[Ro_nil];exact hr
 | cons o l ih =>
   intro s id T hs R h hr
   unfold stripL at h
   split at h
   · rename_i g r hg hl
     cases h
     have hr':wpS E id T hs ⟨o.dst,o.op,g⟩ fun v hs'=>put sz T o.dst v fun T1=>Rs E sz r (id+1) T1 hs' R:=hr
     unfold wpS at hr'
     have hst:∃ q,wantJ ops T o=some q∧(if q=true then wpO E id T hs o.op (fun v hs'=>put sz T o.dst v fun T1=>Rs E sz r (id+1) T1 hs' R)else put sz T o.dst undefV fun T1=>Rs E sz r (id+1) T1 hs R):=by
      unfold stripG at hg
      split at hg
      · rename_i hgn
        cases hg
        refine⟨true,?_,by rw[if_pos rfl];exact hr'⟩
        unfold wantJ;rw[hgn];rfl
      · rename_i j w hgn
        split at hg
        · rename_i p hp
          split at hg
          · rename_i d hd
            cases hg
            obtain⟨v,hv,q,hq,h2⟩:=hr'
            refine⟨boolEq q w,?_,?_⟩
            · unfold wantJ;rw[hgn,orc_some]
              show (ob (nthL ops j) fun p=>_)=_
              rw[nthL_eq,hp,ob_some,hd,ob_some,hv,ob_some]
              exact V.guard?_want hq
            · by_cases e:q=w
              · rw[if_pos e]at h2
                rw[if_pos (by rw[e];cases w<;>rfl)];exact h2
              · rw[if_neg e]at h2
                rw[if_neg (by revert e;cases w<;>cases q<;>simp[boolEq,bi,nt])];exact h2
          · cases hg
        · cases hg
     obtain⟨q,hw,h3⟩:=hst
     obtain⟨r1,h4,h5⟩:=step_of (n:=0) hw h3
     grind [Ro_step]
   · cases h
def Js(E:Env)(rd:Bool)(sz:Nat)(s:SC)(T:PT V)(hs:HS)(Q:Ex→PT V→HS→Prop):Prop:=∀ c,stripC c=some s→Jc E rd sz c T hs Q
theorem stripC_inv{c:Code}{s:SC}(h:stripC c=some s):match s with
 |.draw l bs=>∃ id ops,c=.region id ops true∧stripD ops.toList ops.toList=some l∧drawOk ops.toList=some bs
 |.skip=>c=.skip
 |.ret=>c=.ret
 |.exit i=>c=.exit i
 |.reg l=>∃ id ops,c=.region id ops false∧stripL ops.toList ops.toList=some l
 |.seq a b=>∃ x y,c=.seq x y∧stripC x=some a∧stripC y=some b
 |.cond q a b=>∃ x y,c=.cond q x y∧stripC x=some a∧stripC y=some b
 |.block i a=>∃ x,c=.block i x∧stripC x=some a
 |.loop a=>∃ x,c=.loop x∧stripC x=some a
 |.range g ps a b=>∃ x y,c=.rangeFunc g ps x y∧stripC x=some a∧stripC y=some b:=by
 cases c with
 |skip=>cases h;rfl
 |ret=>cases h;rfl
 |exit i=>cases h;rfl
 | region id ops draw =>
   cases draw with
   | true =>
     grind [stripC,id]
   | false =>
     grind [stripC,id]
 | seq x y =>
   grind [stripC]
 | cond q x y =>
   grind [stripC]
 | block i x =>
   grind [stripC]
 | rangeFunc g ps x y =>
   grind [stripC]
 | loop x =>
   grind [stripC]
 |_=>cases h
theorem Js_skip(h:Q .normal T hs):Js E rd sz .skip T hs Q:=fun c hc=>by have e:c=.skip:=stripC_inv hc;rw[e];exact Jc_skip h
theorem Js_ret(h:Q .ret T hs):Js E rd sz .ret T hs Q:=fun c hc=>by have e:c=.ret:=stripC_inv hc;rw[e];exact Jc_ret h
theorem Js_exit{i:Nat}(h:Q (.exit i) T hs):Js E rd sz (.exit i) T hs Q:=fun c hc=>by have e:c=.exit i:=stripC_inv hc;rw[e];exact Jc_exit h
theorem Js_seq{a b:SC}(h:Js E rd sz a T hs (Ex.then (fun T hs=>Js E rd sz b T hs Q) Q)):Js E rd sz (.seq a b) T hs Q:=fun c hc=>by
 obtain⟨x,y,rfl,hx,hy⟩:=stripC_inv hc
 refine Jc_seq (Jc_mono (h x hx) fun e T hs he=>?_)
 cases e with
 |normal=>exact he y hy
 |ret=>exact he
 |exit i=>exact he
theorem Js_cond{q:Operand}{a b:SC}{t:Bool}(hq:evalO T q=some (.bool t))(h1:t=true→Js E rd sz a T hs Q)(h2:t=false→Js E rd sz b T hs Q):Js E rd sz (.cond q a b) T hs Q:=fun c hc=>by
 obtain⟨x,y,rfl,hx,hy⟩:=stripC_inv hc
 exact Jc_cond hq (fun h=>h1 h x hx) (fun h=>h2 h y hy)
theorem Js_block{id:Nat}{a:SC}(h:Js E rd sz a T hs (Ex.inBlock id Q)):Js E rd sz (.block id a) T hs Q:=fun c hc=>by
 obtain⟨x,rfl,hx⟩:=stripC_inv hc
 exact Jc_block (h x hx)
theorem Js_loop{a:SC}(h:Js E rd sz a T hs (Ex.then (fun T hs=>Js E rd sz (.loop a) T hs Q) Q)):Js E rd sz (.loop a) T hs Q:=fun c hc=>by
 obtain⟨x,rfl,hx⟩:=stripC_inv hc
 refine Jc_loop (Jc_mono (h x hx) fun e T hs he=>?_)
 cases e with
 |normal=>exact he _ hc
 |ret=>exact he
 |exit i=>exact he
theorem Js_reg{l:List SOp}(h:Rs E sz l hs.n T { H:=hs.H,n:=hs.n+l.length,log:=hs.log } fun T hs=>Q .normal T hs):Js E rd sz (.reg l) T hs Q:=fun c hc=>by
 obtain⟨id,ops,rfl,hl⟩:=stripC_inv hc
 have hlen:∀ {m:List Oper} {s:List SOp},stripL ops.toList m=some s→s.length=m.length:=by
  intro m
  induction m with
  |nil=>intro s h;cases h;rfl
  | cons o m ih =>
    intro s h
    unfold stripL at h
    split at h
    · rename_i g r hg hr;cases h;simp[ih hr]
    · cases h
 rw[hlen hl]at h
 have:=Jc_region (id:=id) (rd:=rd) (Q:=Q) (Rs_ok hl h)
 simpa using this
end
section
variable {E:Env}{rd:Bool}{sz:Nat}{T:PT V}{hs:HS}{Q:Ex→PT V→HS→Prop}
def wpDo (E:Env) (id:Nat) (T:PT V) (hs:HS) (op:Op) (K:V→HS→List Nat×List Nat→Prop):Prop :=
 match opClass op with
 | 0 => match op with
   | .call c=>match c.callee with
     |.builtin b=>ok (evalL T c.args.toList) fun vs=>ok (builtinJ E.P { H:=pickT hs.H (readsOf T op),n:=0,log:=[] } id b c.argTypes.toList vs) fun r=>K r.1 hs (readsOf T op,[])
     |_=>False
   |op=>ok (opJ E.P true T { H:=pickT hs.H (readsOf T op),n:=0,log:=[] } id (opR op)) fun r=>K r.1 hs (readsOf T op,[])
 | 1=>hs.H.get id=none∧ok (opJ E.P true T { H:=.leaf,n:=0,log:=[] } id (opR op)) fun r=>ok (r.2.H.get id) fun o'=>o'.fz=false∧K r.1 (hs.put id o') ([id],[])
 | _ => hs.H.get id=none∧(match op with
   | .call c=>match c.callee with
     |.builtin b=>ok (evalL T c.args.toList) fun vs=>ok (builtinJ E.P { H:=hs.H,n:=hs.n,log:=[] } id b c.argTypes.toList vs) fun r=>K r.1 { H:=r.2.H,n:=r.2.n,log:=appL r.2.log hs.log } ([],r.2.log)
     |.value x=>ok (evalO T x) fun v=>ok (funcOf v) fun p=>ok (evalL T c.args.toList) fun vs=>ok (E.con p.1 (appL vs p.2) { H:=hs.H,n:=hs.n,log:=[] }) fun r=>K r.1 { H:=r.2.H,n:=r.2.n,log:=appL r.2.log hs.log } ([],r.2.log)
     |.invoke _ _=>False
   |op=>ok (opJ E.P true T { H:=hs.H,n:=hs.n,log:=[] } id (opR op)) fun r=>K r.1 { H:=r.2.H,n:=r.2.n,log:=appL r.2.log hs.log } ([],r.2.log))
def wpD(E:Env)(id:Nat)(T:PT V)(hs:HS)(op:Op)(K:V→HS→List Nat×List Nat→Prop):Prop :=
 match op with
 |.store t a x=>hs.H.get id=none∧ok (storeOpJ E.P T { H:=pickT hs.H (readsS T hs (.store t a x)),n:=0,log:=[] } t a x) fun r=>K r.1 { H:=putX hs.H r.2.H (readsS T hs (.store t a x)),n:=hs.n,log:=appL r.2.log hs.log } (readsS T hs (.store t a x),r.2.log)
 |op=>wpDo E id T hs op K
def wpSD(E:Env)(id:Nat)(T:PT V)(hs:HS)(s:SD)(K:V→HS→List Nat×List Nat→Prop):Prop :=
 match s.g with
 |none=>wpD E id T hs s.op K
 |some (t,w)=>ok (T.get t) fun v=>ok (v.guard? w) fun q=>if q=w then wpD E id T hs s.op K else K undefV hs ([],[])
def Rd(E:Env)(sz:Nat):List SD→Nat→PT V→HS→List (List Nat×List Nat)→(PT V→HS→List (List Nat×List Nat)→Prop)→Prop
 | [],_,T,hs,acc,R=>R T hs acc
 |s::l,id,T,hs,acc,R=>wpSD E id (pickT T s.lk) hs s fun v hs' rw=>put sz T s.d v fun T1=>Rd E sz l (id+1) T1 hs' (appL acc [rw]) R
theorem wpDo_run {id:Nat} {o:Oper} {n:Nat} {K:V→HS→List Nat×List Nat→Prop} (h:wpDo E id T hs o.op K):∃ r,drawOp E (evJ E n) o id T hs=some r∧K r.1 r.2.1 r.2.2:=by
 unfold wpDo at h
 have hcall:∀ {hs0:HS} {c:Call} {b:Builtin} {vs:List V} {r:V×HS},callOf o.op=some c→c.callee=.builtin b→evalL T c.args.toList=some vs→builtinJ E.P hs0 id b c.argTypes.toList vs=some r→stepJ E (evJ E n) true T hs0 id o=some r:=by
  intro hs0 c b vs r h1 h2 h3 h4
  unfold stepJ;rw[h1]
  show (ob (evalL T c.args.toList) fun vs=>_)=_
  rw[h3,ob_some,h2];exact h4
 have hop:∀ {hs0:HS} {r:V×HS},callOf o.op=none→opJ E.P true T hs0 id (opR o.op)=some r→stepJ E (evJ E n) true T hs0 id o=some r:=by
  intro hs0 r h1 h2
  unfold stepJ;rw[h1];exact h2
 have hnone:∀ {op:Op},(∀ c,op≠.call c)→callOf op=none:=by
  intro op h
  cases op<;>first|rfl|exact absurd rfl (h _)
 split at h
 · rename_i hc
   have key:∀ r:V×HS,stepJ E (evJ E n) true T { H:=pickT hs.H (readsOf T o.op),n:=0,log:=[] } id o=some r→drawOp E (evJ E n) o id T hs=some (r.1,hs,readsOf T o.op,[]):=by
    intro r hr
    unfold drawOp;rw[hc]
    show (ob (stepJ E (evJ E n) true T { H:=pickT hs.H (readsOf T o.op),n:=0,log:=[] } id o) fun r=>some (r.1,hs,readsOf T o.op,[]))=_
    rw[hr];rfl
   split at h
   · rename_i c hcc
     split at h
     · rename_i b hb
       obtain⟨vs,hvs,r,hr,hk⟩:=h
       have hco:callOf o.op=some c:=by rw[hcc];rfl
       exact⟨_,key r (hcall hco hb hvs hr),hk⟩
     · exact h.elim
   · rename_i hne
     obtain⟨r,hr,hk⟩:=h
     exact⟨_,key r (hop (hnone hne) hr),hk⟩
 · rename_i hc
   obtain⟨h0,r,hr,o',ho,hz,hk⟩:=h
   refine⟨(r.1,hs.put id o',[id],[]),?_,hk⟩
   unfold drawOp;rw[hc]
   show (gd (vacant hs id) (ob (stepJ E (evJ E n) true T { H:=.leaf,n:=0,log:=[] } id o) fun r=>ob (r.2.H.get id) fun o'=>gd (nt o'.fz) (some (r.1,hs.put id o',[id],[]))))=_
   rw[vacant_eq.2 h0,gd_true,hop (class1_none hc) hr,ob_some,ho,ob_some,hz];rfl
 · rename_i hc0 hc1
   obtain⟨h0,h⟩:=h
   have hc:opClass o.op=2:=by
    rcases opClass_le o.op with h|h|h
    · exact absurd h hc0
    · exact absurd h hc1
    · exact h
   have key:∀ r:V×HS,stepJ E (evJ E n) true T { H:=hs.H,n:=hs.n,log:=[] } id o=some r→drawOp E (evJ E n) o id T hs=some (r.1,{ H:=r.2.H,n:=r.2.n,log:=appL r.2.log hs.log },[],r.2.log):=by
    intro r hr
    unfold drawOp;rw[hc]
    show (gd (vacant hs id) (ob (stepJ E (evJ E n) true T { H:=hs.H,n:=hs.n,log:=[] } id o) fun r=>some (r.1,({ H:=r.2.H,n:=r.2.n,log:=appL r.2.log hs.log }:HS),([]:List Nat),r.2.log)))=_
    rw[vacant_eq.2 h0,gd_true,hr];rfl
   split at h
   · rename_i c hcc
     have hco:callOf o.op=some c:=by rw[hcc];rfl
     split at h
     · rename_i b hb
       obtain⟨vs,hvs,r,hr,hk⟩:=h
       exact⟨_,key r (hcall hco hb hvs hr),hk⟩
     · rename_i x hx
       obtain⟨v,hv,p,hp,vs,hvs,r,hr,hk⟩:=h
       obtain⟨f,caps⟩:=p
       have e:v=.func f caps:=by
        unfold funcOf at hp;split at hp
        · cases hp;rfl
        · cases hp
       subst e
       refine⟨_,key r ?_,hk⟩
       unfold stepJ;rw[hco]
       show (ob (evalL T c.args.toList) fun vs=>_)=_
       rw[hvs,ob_some,hx]
       show (ob (evalO T x) fun v=>valueJ E (evJ E n) v vs _)=_
       rw[hv,ob_some]
       show callJ E (evJ E n) f (appL vs caps) _=some r
       unfold callJ
       rw[hr,orc_some]
     · exact h.elim
   · rename_i hne
     obtain⟨r,hr,hk⟩:=h
     exact⟨_,key r (hop (hnone hne) hr),hk⟩
theorem wpD_run{id:Nat}{o:Oper}{n:Nat}{K:V→HS→List Nat×List Nat→Prop}(h:wpD E id T hs o.op K):∃ r,drawRun E (evJ E n) o id T hs=some r∧K r.1 r.2.1 r.2.2:=by
 unfold wpD at h
 unfold drawRun
 split at h
 · rename_i t a x hop
   obtain⟨h0,r,hr,hk⟩:=h
   have hs0:isStore o.op=true:=by rw[hop];rfl
   rw[hs0,bi_true]
   unfold drawSt
   rw[vacant_eq.2 h0,gd_true,hop,stepJ_store hop,hr,ob_some]
   grind
 · rename_i hne
   have hs0:isStore o.op=false:=by
    simp[isStore]
   rw[hs0,bi_false]
   exact wpDo_run h
theorem Rd_ok {ops:List Oper} {n:Nat}:∀ {l:List Oper} {s:List SD} {id:Nat} {T:PT V} {hs:HS} {acc:List (List Nat×List Nat)} {R:PT V→HS→List (List Nat×List Nat)→Prop},stripD ops l=some s→Rd E sz s id T hs acc R →
 ∃ T' hs' acc',regionD E (evJ E n) sz ops l id T hs acc=some ((T',hs'),acc')∧R T' hs' acc':=by
 intro l
 induction l with
 | nil =>
   intro s id T hs acc R h hr
   cases h
   exact⟨T,hs,acc,rfl,hr⟩
 | cons o l ih =>
   intro s id T hs acc R h hr
   unfold stripD at h
   split at h
   · rename_i g r hg hl
     cases h
     have hr':wpSD E id (pickT T (looks ops o)) hs ⟨o.dst,o.op,g,looks ops o⟩ fun v hs' rw=>put sz T o.dst v fun T1=>Rd E sz r (id+1) T1 hs' (appL acc [rw]) R:=hr
     unfold wpSD at hr'
     have hst:∃ q,drawStep E (evJ E n) ops o id (pickT T (looks ops o)) hs=some q∧put sz T o.dst q.1 fun T1=>Rd E sz r (id+1) T1 q.2.1 (appL acc [q.2.2]) R:=by
      unfold stripG at hg
      split at hg
      · rename_i hgn
        cases hg
        obtain⟨q,h1,h2⟩:=wpD_run (n:=n) hr'
        refine⟨q,?_,h2⟩
        have hw:wantJ ops (pickT T (looks ops o)) o=some true:=by unfold wantJ;rw[hgn];rfl
        grind [drawStep,ob_some,bi_true]
      · rename_i j w hgn
        split at hg
        · rename_i p hp
          split at hg
          · rename_i d hd
            cases hg
            obtain⟨v,hv,q,hq,h2⟩:=hr'
            have hw:wantJ ops (pickT T (looks ops o)) o=some (boolEq q w):=by
             unfold wantJ;rw[hgn,orc_some]
             show (ob (nthL ops j) fun p=>_)=_
             rw[nthL_eq,hp,ob_some,hd,ob_some,hv,ob_some]
             exact V.guard?_want hq
            by_cases e:q=w
            · rw[if_pos e]at h2
              obtain⟨q1,h3,h4⟩:=wpD_run (n:=n) h2
              refine⟨q1,?_,h4⟩
              unfold drawStep;rw[hw,ob_some,show boolEq q w=true by rw[e];cases w<;>rfl,bi_true];exact h3
            · rw[if_neg e]at h2
              refine⟨(undefV,hs,[],[]),?_,h2⟩
              unfold drawStep;rw[hw,ob_some,show boolEq q w=false by revert e;cases w<;>cases q<;>simp[boolEq,bi,nt],bi_false]
          · cases hg
        · cases hg
     obtain⟨q,h1,h2⟩:=hst
     obtain⟨T1,h3,h4⟩:=putJ_of h2
     obtain⟨T',hs',acc',h5,h6⟩:=ih hl h4
     refine⟨T',hs',acc',?_,h6⟩
     show (ob (drawStep E (evJ E n) ops o id (pickT T (looks ops o)) hs) fun r=>ob (putJ sz T o.dst r.1) fun T'=>regionD E (evJ E n) sz ops l (id+1) T' r.2.1 (appL acc [r.2.2]))=_
     grind [ob_some]
   · cases h
theorem Js_draw{l:List SD}{bs:List Nat}(h:Rd E sz l hs.n T { H:=hs.H,n:=hs.n+l.length,log:=hs.log } [] fun T hs acc=>allClash acc acc 0 bs=true∧Q .normal T hs):Js E rd sz (.draw l bs) T hs Q:=fun c hc=>by
 obtain⟨id,ops,rfl,hl,hb⟩:=stripC_inv hc
 have hlen:∀ {m:List Oper} {s:List SD},stripD ops.toList m=some s→s.length=m.length:=by
  intro m
  induction m with
  |nil=>intro s h;cases h;rfl
  | cons o m ih =>
    intro s h
    unfold stripD at h
    split at h
    · rename_i g r hg hr;cases h;simp[ih hr]
    · cases h
 rw[hlen hl]at h
 obtain⟨T',hs',acc',h1,h2,h3⟩:=Rd_ok (n:=0) hl h
 refine⟨1,.normal,T',hs',?_,h3⟩
 show (ob (bi true (drawJ E (evJ E 0) sz ops.toList T hs) _) fun r=>some (Ex.normal,r.1,r.2))=_
 rw[bi_true]
 have hd:drawJ E (evJ E 0) sz ops.toList T hs=some (T',hs'):=by
  show (ob (drawOk ops.toList) fun bs=>ob (regionD E (evJ E 0) sz ops.toList ops.toList hs.n T { H:=hs.H,n:=hs.n+lenL ops.toList,log:=hs.log } []) fun r=>gd (allClash r.2 r.2 0 bs) (some r.1))=_
  rw[hb,ob_some,lenL_eq,h1,ob_some,h2,gd_true]
 rw[hd];rfl
end
theorem run_strip{E:Env}{f:FuncId}{fn:Func}{s:SC}{vs:List V}{hs:HS}{T:PT V}{K:V→HS→Prop}(hf:E.P.funcs[f]?=some fn)(hb:fn.body.bind stripC=some s)(he:enterJ fn.ntmps vs 0 .leaf=some T)
 (h:Js E false fn.ntmps s T hs fun ex T' hs'=>(∀ i,ex≠.exit i)∧ok (resJ E.P T' hs' fn.results.toList) fun l=>K (tupleJ l) hs'):∃ n v hs',(evJ E n).call f vs hs=some (v,hs')∧K v hs':=by
 cases hc:fn.body with
 |none=>rw[hc]at hb;cases hb
 |some c=>rw[hc]at hb;exact run_body hf hc he (h c hb)
def Leaves(P:Program)(fn:Func)(K:V→HS→Prop)(ex:Ex)(T:PT V)(hs:HS):Prop:=(∀ i,ex≠.exit i)∧ok (resJ P T hs fn.results.toList) fun l=>K (tupleJ l) hs
def Gives(r:V)(v:V)(hs:HS):Prop:=still hs v=some r
theorem Leaves_ret{P:Program}{fn:Func}{K:V→HS→Prop}{T:PT V}{hs:HS}:Leaves P fn K .ret T hs=ok (resJ P T hs fn.results.toList) fun l=>K (tupleJ l) hs :=
 propext ⟨fun h=>h.2,fun h=>⟨fun i h=>(by cases h),h⟩⟩
theorem Leaves_normal{P:Program}{fn:Func}{K:V→HS→Prop}{T:PT V}{hs:HS}:Leaves P fn K .normal T hs=ok (resJ P T hs fn.results.toList) fun l=>K (tupleJ l) hs :=
 propext ⟨fun h=>h.2,fun h=>⟨fun i h=>(by cases h),h⟩⟩
theorem run_gives{E:Env}{f:FuncId}{fn:Func}{s:SC}{vs:List V}{T:PT V}{r:V}(hf:E.P.funcs[f]?=some fn)(hb:fn.body.bind stripC=some s)(he:enterJ fn.ntmps vs 0 .leaf=some T)
 (h:Js E false fn.ntmps s T { H:=.leaf,n:=0,log:=[] } (Leaves E.P fn (Gives r))):∃ n,runJ E n f vs=some r:=by
 obtain⟨n,v,hs',h1,h2⟩:=run_strip (hs:=emptyHS) (K:=Gives r) hf hb he h
 refine⟨n,?_⟩
 show (ob ((evJ E n).call f vs emptyHS) fun r=>still r.2 r.1)=some r
 rw[h1,ob_some];exact h2
end Go.J
/- Rules of rewriting for symbolic runs. -/
namespace Go.J
section
variable {E:Env}{id:Nat}{T:PT V}{hs:HS}{K:V→HS→Prop}{sz:Nat}
@[simp ↓] theorem Rs_nil {R:PT V→HS→Prop}:Rs E sz [] id T hs R=R T hs:=(rfl)
@[simp ↓] theorem Rs_cons {d:Option Tmp} {op:Op} {g:Option (Tmp×Bool)} {l:List SOp} {R:PT V→HS→Prop}:Rs E sz (⟨d,op,g⟩::l) id T hs R=wpS E id T hs ⟨d,op,g⟩ fun v hs'=>put sz T d v fun T1=>Rs E sz l (id+1) T1 hs' R:=(rfl)
@[simp ↓] theorem wpS_n {d:Option Tmp} {op:Op}:wpS E id T hs ⟨d,op,none⟩ K=wpO E id T hs op K:=(rfl)
@[simp ↓] theorem wpS_g {d:Option Tmp} {op:Op} {t:Tmp} {w:Bool}:wpS E id T hs ⟨d,op,some (t,w)⟩ K=ok (T.get t) fun v=>ok (v.guard? w) fun q=>br (q=w) (wpO E id T hs op K) (K undefV hs):=by
  simp only[br_eq];rfl
@[simp ↓] theorem put_some {d:Tmp} {v:V} {R:PT V→Prop}:put sz T (some d) v R=(d<sz∧R (T.set d v)):=(rfl)
@[simp ↓] theorem put_none {v:V} {R:PT V→Prop}:put sz T none v R=R T:=(rfl)
theorem and_zero{p:Prop}:((0:Nat)≠0→p)=True:=propext ⟨fun _=>trivial,fun _ h=>absurd rfl h⟩
theorem and_two{p:Prop}:((2:Nat)≠0→p)=p:=propext ⟨fun h=>h (by decide),fun h _=>h⟩
theorem wp_0{op:Op}(hc:opClass op=0)(hd:wpO E id T hs op K=((opClass op≠0→hs.H.get id=none)∧ok (opJ E.P false T hs id (opR op)) fun r=>K r.1 r.2)):wpO E id T hs op K=ok (opJ E.P false T hs id (opR op)) fun r=>K r.1 r.2:=by
 grind
@[simp ↓] theorem wp_move {x:Operand}:wpO E id T hs (.move x) K=ok (evalO T x) fun v=>K v hs:=by
  rw[wp_0 rfl rfl];show ok (ob (evalO T x) fun v=>some (v,hs)) _=_;simp only[ok_ob,ok_some]
@[simp ↓] theorem wp_assign {x:Operand}:wpO E id T hs (.assign x) K=ok (evalO T x) fun v=>K v hs:=by
  rw[wp_0 rfl rfl];show ok (ob (evalO T x) fun v=>some (v,hs)) _=_;simp only[ok_ob,ok_some]
@[simp ↓] theorem wp_pick {c a b:Operand}:wpO E id T hs (.pick c a b) K=ok (evalO T c) fun v=>ok v.bool? fun q=>ok (bi q (evalO T a) (evalO T b)) fun v=>K v hs:=by
  rw[wp_0 rfl rfl];show ok (pickJ T hs c a b) _=_;simp only[pickJ,ok_ob,ok_some]
@[simp ↓] theorem wp_load {t:TypeId} {a:Operand}:wpO E id T hs (.load t a) K=ok (ti E.P t) fun i=>ok (evalO T a) fun p=>ok (loadJ i hs p) fun v=>K v hs:=by
  rw[wp_0 rfl rfl];show ok (loadOpJ E.P T hs t a) _=_;simp only[loadOpJ,ok_ob,ok_some]
@[simp ↓] theorem wp_binOp {b:BinOp} {t u:TypeId} {x y:Operand}:wpO E id T hs (.binOp b t x y u) K=ok (evalO T x) fun p=>ok (evalO T y) fun q=>ok (bi (isNilC y) (nilJ E.P b t p) (binJ E.P b t p q)) fun v=>K v hs:=by
  rw[wp_0 rfl rfl];show ok (binOpJ E.P T hs b t x y) _=_;simp only[binOpJ,ok_ob,ok_some]
@[simp ↓] theorem wp_unOp {b:UnOp} {t:TypeId} {x:Operand}:wpO E id T hs (.unOp b t x) K=ok (unOpJ T hs b x) fun r=>K r.1 r.2:=by
  rw[wp_0 rfl rfl];rfl
@[simp ↓] theorem wp_fieldAddr {t:TypeId} {x:Operand} {f:Nat}:wpO E id T hs (.fieldAddr t x f) K=ok (ti E.P t) fun i=>ok (fieldOf i f) fun fd=>ok (ti E.P fd.type) fun fi=>nt (Nat.beq fi.size 0)=true∧ok (evalO T x) fun v=>ok (fieldAddrV fd.offset v) fun r=>K r hs:=by
  rw[wp_0 rfl rfl];show ok (fieldAddrJ E.P T hs t x f) _=_;simp only[fieldAddrJ,ok_ob,ok_gd,ok_some]
@[simp ↓] theorem wp_field {t:TypeId} {x:Operand} {f:Nat}:wpO E id T hs (.field t x f) K=ok (ti E.P t) fun i=>ok (fieldOf i f) fun fd=>ok (ti E.P fd.type) fun fi=>ok (evalO T x) fun v=>ok v.agg? fun cs=>ok (partL fi cs fd.offset) fun v=>K v hs:=by
  rw[wp_0 rfl rfl];show ok (fieldJ E.P T hs t x f) _=_;simp only[fieldJ,ok_ob,ok_some]
@[simp ↓] theorem wp_indexAddr {t:TypeId} {x ix:Operand}:wpO E id T hs (.indexAddr t x ix) K=ok (ti E.P t) fun i=>ok (elemOf i.desc) fun el=>ok (ti E.P el.1) fun e=>ok (evalO T x) fun v=>ok (evalO T ix) fun n=>ok n.nat? fun n=>ok (idxV el.2 e n v) fun r=>K r hs:=by
  rw[wp_0 rfl rfl];show ok (indexAddrJ E.P T hs t x ix) _=_;simp only[indexAddrJ,ok_ob,ok_some]
@[simp ↓] theorem wp_index {t:TypeId} {x ix:Operand}:wpO E id T hs (.index t x ix) K=ok (ti E.P t) fun i=>isStr i.desc=true∧ok (evalO T x) fun v=>ok v.str? fun s=>ok (evalO T ix) fun n=>ok n.nat? fun n=>ok (nthL s n) fun b=>K (.int .u8 (Int.ofNat b)) hs:=by
  rw[wp_0 rfl rfl];show ok (indexJ E.P T hs t x ix) _=_;simp only[indexJ,ok_ob,ok_gd,ok_some]
@[simp ↓] theorem wp_extract {x:Operand} {k:Nat}:wpO E id T hs (.extract x k) K=ok (evalO T x) fun v=>ok v.tuple? fun vs=>ok (nthL vs k) fun v=>K v hs:=by
  rw[wp_0 rfl rfl];show ok (extractJ T hs x k) _=_;simp only[extractJ,ok_ob,ok_some]
@[simp ↓] theorem wp_nilCheck {x:Operand}:wpO E id T hs (.nilCheck x) K=ok (evalO T x) fun v=>notNil v=true∧K v hs:=by
  rw[wp_0 rfl rfl];show ok (nilCheckJ T hs x) _=_;simp only[nilCheckJ,ok_ob,ok_gd,ok_some]
@[simp ↓] theorem wp_build {t:TypeId} {ps:Array (Nat×Operand)}:wpO E id T hs (.build t ps) K=ok (ti E.P t) fun i=>ok (bi (isStructD i.desc) (gd (fieldsOk E.P (fieldsOf i.desc)) (buildJ E.P T i ps.toList i.zero)) (ob (arrOf i.desc) fun el=>ob (ti E.P el) fun e=>buildAJ T e.size ps.toList i.zero)) fun cs=>K (.agg cs) hs:=by
  rw[wp_0 rfl rfl];show ok (buildOpJ E.P T hs t ps) _=_;unfold buildOpJ;simp only[ok_ob (ti E.P t)];congr 1;funext i;rw[ok_ob];congr 1;funext cs;rw[ok_some]
@[simp ↓] theorem wp_slice {t:TypeId} {x:Operand} {lo hi mx:Option Operand}:wpO E id T hs (.slice t x lo hi mx) K=ok (ti E.P t) fun i=>ok (evalO T x) fun v=>ok (sliceJ E.P T hs i v lo hi mx) fun r=>K r hs:=by
  rw[wp_0 rfl rfl];show ok (sliceOpJ E.P T hs t x lo hi mx) _=_;simp only[sliceOpJ,ok_ob,ok_some]
@[simp ↓] theorem wp_lookup {t:TypeId} {m k:Operand} {b:Bool}:wpO E id T hs (.lookup t m k b) K=ok (lookupJ E.P T hs t m k b) fun r=>K r.1 r.2:=by
  rw[wp_0 rfl rfl];rfl
@[simp ↓] theorem wp_convert {s d:TypeId} {x:Operand}:wpO E id T hs (.convert s d x) K=ok (ti E.P s) fun _=>ok (ti E.P d) fun j=>ok (evalO T x) fun v=>ok (convV j.desc v) fun r=>K r hs:=by
  rw[wp_0 rfl rfl];show ok (convJ E.P T hs s d x) _=_;simp only[convJ,ok_ob,ok_some]
@[simp ↓] theorem wp_makeFunc {f:FuncId} {cs:Array Operand}:wpO E id T hs (.makeFunc (.func f) #[] cs) K=ok (evalL T cs.toList) fun l=>K (.func f l) hs:=by
  rw[wp_0 rfl rfl];show ok (makeFuncJ T hs (.func f) #[] cs) _=_
  show ok (gd true (ob (evalL T cs.toList) fun l=>some (V.func f l,hs))) _=_
  simp only[gd_true,ok_ob,ok_some]
@[simp ↓] theorem wp_makeIface {t:TypeId} {x:Operand}:wpO E id T hs (.makeInterface t x) K=ok (ti E.P t) fun i=>nt (isIface i.desc)=true∧ok (evalO T x) fun v=>K (.iface t v) hs:=by
  rw[wp_0 rfl rfl];show ok (makeIfaceJ E.P T hs t x) _=_;simp only[makeIfaceJ,ok_ob,ok_gd,ok_some]
theorem wp_1{op:Op}(hc:opClass op=1)(hd:wpO E id T hs op K=((opClass op≠0→hs.H.get id=none)∧ok (opJ E.P false T hs id (opR op)) fun r=>K r.1 r.2)):wpO E id T hs op K=(hs.H.get id=none∧ok (opJ E.P false T hs id (opR op)) fun r=>K r.1 r.2):=by
 grind
theorem wp_2{op:Op}(hc:opClass op=2)(hd:wpO E id T hs op K=((opClass op≠0→hs.H.get id=none)∧ok (opJ E.P false T hs id (opR op)) fun r=>K r.1 r.2)):wpO E id T hs op K=(hs.H.get id=none∧ok (opJ E.P false T hs id (opR op)) fun r=>K r.1 r.2):=by
 grind
@[simp ↓] theorem wp_alloc {t:TypeId}:wpO E id T hs (.alloc t) K=(hs.H.get id=none∧ok (ti E.P t) fun i=>Nat.beq (lenL i.zero) i.size=true∧K (.ptr id 0 0) (hs.put id (.arr i.size 0 [i.zero] true false false))):=by
  rw[wp_1 rfl rfl];show (_∧ok (allocJ E.P hs id t) _)=_;simp only[allocJ,ok_ob,ok_gd,ok_some]
@[simp ↓] theorem wp_box {t:TypeId} {x:Operand}:wpO E id T hs (.box t x) K=(hs.H.get id=none∧ok (evalO T x) fun v=>K (.ptr id 0 0) (hs.put id (.arr (lenL v.cells) 0 [v.cells] true false false))):=by
  rw[wp_1 rfl rfl];show (_∧ok (boxJ T hs id x) _)=_;simp only[boxJ,ok_ob,ok_some]
@[simp ↓] theorem wp_buildSlice {t:TypeId} {n:Nat} {ps:Array (Nat×Operand)}:wpO E id T hs (.buildSlice t n ps) K=(hs.H.get id=none∧ok (buildSliceOpJ E.P false T hs id t n ps) fun r=>K r.1 r.2):=by
  rw[wp_1 rfl rfl];rfl
@[simp ↓] theorem wp_makeSlice {t:TypeId} {l c:Operand}:wpO E id T hs (.makeSlice t l c) K=(hs.H.get id=none∧ok (makeSliceOpJ E.P T hs id t l c) fun r=>K r.1 r.2):=by
  rw[wp_1 rfl rfl];rfl
@[simp ↓] theorem wp_makeMap {t:TypeId}:wpO E id T hs (.makeMap t none) K=(hs.H.get id=none∧K (.map id) (hs.put id (.mp []))):=by
  rw[wp_1 rfl rfl];show (_∧ok (gd true (some (V.map id,hs.put id (.mp [])))) _)=_;simp only[gd_true,ok_some]
@[simp ↓] theorem wp_store {t:TypeId} {a x:Operand}:wpO E id T hs (.store t a x) K=(hs.H.get id=none∧ok (ti E.P t) fun i=>ok (evalO T a) fun p=>ok (evalO T x) fun v=>ok (storeJ i hs p v) fun hs'=>K undefV hs'):=by
  rw[wp_2 rfl rfl];show (_∧ok (storeOpJ E.P T hs t a x) _)=_;simp only[storeOpJ,ok_ob,ok_some]
@[simp ↓] theorem wp_mapUpdate {t:TypeId} {m k x:Operand}:wpO E id T hs (.mapUpdate t m k x) K=(hs.H.get id=none∧ok (mapUpdateJ E.P T hs t m k x) fun r=>K r.1 r.2):=by
  rw[wp_2 rfl rfl];rfl
@[simp ↓] theorem wp_call {x:Operand} {xs:Array Operand} {ts:Array TypeId}:wpO E id T hs (.call ⟨.value x,xs,ts⟩) K=(hs.H.get id=none∧ok (evalO T x) fun v=>ok (funcOf v) fun p=>ok (evalL T xs.toList) fun vs=>ok (E.con p.1 (appL vs p.2) hs) fun r=>K r.1 r.2):=(rfl)
@[simp ↓] theorem wp_len {xs:Array Operand} {ts:Array TypeId}:wpO E id T hs (.call ⟨.builtin .len,xs,ts⟩) K=ok (evalL T xs.toList) fun vs=>ok (lenOpJ E.P hs ts.toList vs) fun r=>K r.1 r.2:=by
  show ((opClass (.call ⟨.builtin .len,xs,ts⟩)≠0→_)∧_)=_
  rw[show opClass (.call ⟨.builtin .len,xs,ts⟩)=0 from rfl,and_zero,true_and];rfl
@[simp ↓] theorem wp_min {xs:Array Operand} {ts:Array TypeId}:wpO E id T hs (.call ⟨.builtin .min,xs,ts⟩) K=ok (evalL T xs.toList) fun vs=>ok (minmaxJ hs true vs) fun r=>K r.1 r.2:=by
  show ((opClass (.call ⟨.builtin .min,xs,ts⟩)≠0→_)∧_)=_
  rw[show opClass (.call ⟨.builtin .min,xs,ts⟩)=0 from rfl,and_zero,true_and];rfl
@[simp ↓] theorem wp_max {xs:Array Operand} {ts:Array TypeId}:wpO E id T hs (.call ⟨.builtin .max,xs,ts⟩) K=ok (evalL T xs.toList) fun vs=>ok (minmaxJ hs false vs) fun r=>K r.1 r.2:=by
  show ((opClass (.call ⟨.builtin .max,xs,ts⟩)≠0→_)∧_)=_
  rw[show opClass (.call ⟨.builtin .max,xs,ts⟩)=0 from rfl,and_zero,true_and];rfl
@[simp ↓] theorem wp_append {xs:Array Operand} {ts:Array TypeId}:wpO E id T hs (.call ⟨.builtin .append,xs,ts⟩) K=(hs.H.get id=none∧ok (evalL T xs.toList) fun vs=>ok (appendOpJ E.P hs id ts.toList vs) fun r=>K r.1 r.2):=by
  show ((opClass (.call ⟨.builtin .append,xs,ts⟩)≠0→_)∧_)=_
  rw[show opClass (.call ⟨.builtin .append,xs,ts⟩)=2 from rfl,and_two];rfl
@[simp ↓] theorem wp_copy {xs:Array Operand} {ts:Array TypeId}:wpO E id T hs (.call ⟨.builtin .copy,xs,ts⟩) K=(hs.H.get id=none∧ok (evalL T xs.toList) fun vs=>ok (copyOpJ E.P hs ts.toList vs) fun r=>K r.1 r.2):=by
  show ((opClass (.call ⟨.builtin .copy,xs,ts⟩)≠0→_)∧_)=_
  rw[show opClass (.call ⟨.builtin .copy,xs,ts⟩)=2 from rfl,and_two];rfl
attribute [simp ↓] br_true br_false
@[congr] theorem br_congr {c c' A B:Prop} (h:c=c'):br c A B=br c' A B:=by rw[h]
@[congr] theorem ok_congr {α:Type} {x y:Option α} {K:α→Prop} (h:x=y):ok x K=ok y K:=by rw[h]
@[congr] theorem Js_congr {rd:Bool} {s:SC} {T T':PT V} {hs hs':HS} {Q:Ex→PT V→HS→Prop} (h1:T=T') (h2:hs=hs'):Js E rd sz s T hs Q=Js E rd sz s T' hs' Q:=by rw[h1,h2]
@[congr] theorem Leaves_congr {P:Program} {fn:Func} {K:V→HS→Prop} {ex ex':Ex} {T T':PT V} {hs hs':HS} (h0:ex=ex') (h1:T=T') (h2:hs=hs'):Leaves P fn K ex T hs=Leaves P fn K ex' T' hs':=by rw[h0,h1,h2]
@[congr] theorem ob_congr {α β:Type} {x y:Option α} {f:α→Option β} (h:x=y):ob x f=ob y f:=by rw[h]
@[congr] theorem gd_congr {β:Type} {c d:Bool} {x:Option β} (h:c=d):gd c x=gd d x:=by rw[h]
@[congr] theorem orc_congr {α β:Type} {z:β} {f:α→β} {x y:Option α} (h:x=y):orc z f x=orc z f y:=by rw[h]
@[congr] theorem bi_congr {α:Type} {c d:Bool} {x y:α} (h:c=d):bi c x y=bi d x y:=by rw[h]
@[simp] theorem bi_dec {α:Type} {p:Prop} [Decidable p] {x y:α}:bi (decide p) x y=if p then x else y:=by rw[bi_eq];simp
@[simp ↓] theorem ok_some_d {α:Type} (a:α) (K:α→Prop):ok (some a) K=K a:=ok_some a K
@[simp ↓] theorem ok_ob_d {α β:Type} (x:Option α) (f:α→Option β) (K:β→Prop):ok (ob x f) K=ok x fun a=>ok (f a) K:=ok_ob x f K
@[simp ↓] theorem ok_gd_d {α:Type} (c:Bool) (x:Option α) (K:α→Prop):ok (gd c x) K=(c=true∧ok x K):=ok_gd c x K
@[simp ↓] theorem ob_some_d {α β:Type} (a:α) (f:α→Option β):ob (some a) f=f a:=(rfl)
@[simp ↓] theorem gd_true_d {β:Type} (x:Option β):gd true x=x:=(rfl)
@[simp ↓] theorem orc_some_d {α β:Type} (z:β) (f:α→β) (a:α):orc z f (some a)=f a:=(rfl)
@[simp ↓] theorem bi_true_d {α:Type} (x y:α):bi true x y=x:=(rfl)
@[simp ↓] theorem bi_false_d {α:Type} (x y:α):bi false x y=y:=(rfl)
@[simp] theorem evalO_tmp {t:Tmp}:evalO T (.tmp t)=T.get t:=(rfl)
@[simp] theorem evalO_const {v:Value}:evalO T (.const v)=ofConst v:=(rfl)
@[simp] theorem evalO_func {f:FuncId}:evalO T (.func f)=some (.func f []):=(rfl)
@[simp] theorem ofConst_bool {b:Bool}:ofConst (.bool b)=some (.bool b):=(rfl)
@[simp] theorem ofConst_int {k:IntKind} {n:Int}:ofConst (.int k n)=some (.int k n):=(rfl)
@[simp] theorem ofConst_str {s:ByteArray}:ofConst (.string s)=some (.str (bytesOf s)):=(rfl)
@[simp] theorem ofConst_nilptr:ofConst (.pointer none)=some .nilptr:=(rfl)
@[simp] theorem ofConst_snil:ofConst (.slice none 0 0)=some .snil:=(rfl)
@[simp] theorem ofConst_nilmap:ofConst (.map none)=some .nilmap:=(rfl)
@[simp] theorem ofConst_nilFunc:ofConst .nilFunc=some .nilFunc:=(rfl)
@[simp] theorem guard?_bool {b w:Bool}:(V.bool b).guard? w=some b:=(rfl)
@[simp] theorem guard?_tuple {w:Bool}:(V.tuple []).guard? w=some (!w):=(rfl)
@[simp] theorem guard?_undef {w:Bool}:undefV.guard? w=some (!w):=(rfl)
@[simp] theorem bool?_bool {b:Bool}:(V.bool b).bool?=some b:=(rfl)
@[simp] theorem int?_int {k:IntKind} {n:Int}:(V.int k n).int?=some (k,n):=(rfl)
@[simp] theorem nat?_cast {k:IntKind} {n:Nat}:(V.int k (n:Int)).nat?=some n:=(rfl)
@[simp] theorem nat?_ofNat {k:IntKind} {n:Nat}:(V.int k (Int.ofNat n)).nat?=some n:=(rfl)
@[simp] theorem nat?_zero {k:IntKind}:(V.int k 0).nat?=some 0:=(rfl)
@[simp] theorem nat?_one {k:IntKind}:(V.int k 1).nat?=some 1:=(rfl)
@[simp] theorem nat?_lit {k:IntKind} {n:Nat}:(V.int k (@OfNat.ofNat Int n instOfNat)).nat?=some n:=(rfl)
@[simp] theorem str?_str {s:List Nat}:(V.str s).str?=some s:=(rfl)
@[simp] theorem agg?_agg {s:List V}:(V.agg s).agg?=some s:=(rfl)
@[simp] theorem tuple?_tuple {s:List V}:(V.tuple s).tuple?=some s:=(rfl)
@[simp] theorem cells_agg {s:List V}:(V.agg s).cells=s:=(rfl)
@[simp] theorem cells_int {k:IntKind} {n:Int}:(V.int k n).cells=[.int k n]:=(rfl)
@[simp] theorem cells_bool {b:Bool}:(V.bool b).cells=[.bool b]:=(rfl)
@[simp] theorem cells_str {b:List Nat}:(V.str b).cells=[.str b]:=(rfl)
@[simp] theorem cells_snil:V.snil.cells=[.snil]:=(rfl)
@[simp] theorem cells_sl {es:List (List V)} {t:Bool}:(V.sl es t).cells=[.sl es t]:=(rfl)
@[simp] theorem cells_own {a b c d:Nat} {t:Option Nat}:(V.own a b c d t).cells=[.own a b c d t]:=(rfl)
@[simp] theorem cells_map {a:Nat}:(V.map a).cells=[.map a]:=(rfl)
@[simp] theorem cells_nilmap:(V.nilmap).cells=[.nilmap]:=(rfl)
@[simp] theorem cells_ptr {a b c:Nat}:(V.ptr a b c).cells=[.ptr a b c]:=(rfl)
@[simp] theorem cells_func {f:Nat} {c:List V}:(V.func f c).cells=[.func f c]:=(rfl)
@[simp] theorem cells_nilFunc:(V.nilFunc).cells=[.nilFunc]:=(rfl)
@[simp] theorem funcOf_func {f:FuncId} {c:List V}:funcOf (.func f c)=some (f,c):=(rfl)
@[simp] theorem allC_nil:allC []=true:=(rfl)
@[simp] theorem allC_cons {v:V} {l:List V}:allC (v::l)=et v.isCell (allC l):=(rfl)
@[simp] theorem isCell_int {k:IntKind} {n:Int}:(V.int k n).isCell=true:=(rfl)
@[simp] theorem isCell_bool {b:Bool}:(V.bool b).isCell=true:=(rfl)
@[simp] theorem isCell_str {b:List Nat}:(V.str b).isCell=true:=(rfl)
@[simp] theorem isCell_snil:V.snil.isCell=true:=(rfl)
@[simp] theorem isCell_sl {es:List (List V)} {t:Bool}:(V.sl es t).isCell=true:=(rfl)
@[simp] theorem isCell_own {a b c d:Nat} {t:Option Nat}:(V.own a b c d t).isCell=true:=(rfl)
@[simp] theorem isCell_map {a:Nat}:(V.map a).isCell=true:=(rfl)
@[simp] theorem isCell_nilmap:(V.nilmap).isCell=true:=(rfl)
@[simp] theorem isCell_ptr {a b c:Nat}:(V.ptr a b c).isCell=true:=(rfl)
@[simp] theorem isCell_func {f:Nat} {c:List V}:(V.func f c).isCell=true:=(rfl)
@[simp] theorem isCell_nilFunc:(V.nilFunc).isCell=true:=(rfl)
@[simp] theorem loadJ_ptr {i:TI} {a g off:Nat}:loadJ i hs (.ptr a g off)=ob (getRow hs a g) fun r=>loadRow i r off:=(rfl)
@[simp] theorem loadJ_ref {i:TI} {cs:List V}:loadJ i hs (.ref cs)=partL i cs 0:=(rfl)
@[simp] theorem fieldAddr_ptr {n a g off:Nat}:fieldAddrV n (.ptr a g off)=some (.ptr a g (off+n)):=(rfl)
@[simp] theorem fieldAddr_ref {n:Nat} {cs:List V}:fieldAddrV n (.ref cs)=some (.ref (dropL n cs)):=(rfl)
@[simp] theorem indexAddr_sl {e:TI} {n:Nat} {es:List (List V)} {t:Bool}:indexAddrV e n (.sl es t)=gd (sizes e.size es) (ob (nthL es n) fun c=>some (.ref c)):=(rfl)
@[simp] theorem indexAddr_own {e:TI} {n a g off len:Nat} {c:Option Nat}:indexAddrV e n (.own a g off len c)=gd (Nat.blt n len) (some (.ptr a g (off+n*e.size))):=(rfl)
@[simp] theorem storeJ_ptr {i:TI} {a g off:Nat} {v:V}:storeJ i hs (.ptr a g off) v=bi (isRow hs a) (ob (purify v hs) fun r=>storeRow i a g off r.1 r.2) (storeRow i a g off v hs):=(rfl)
@[simp] theorem arr?_arr {s g:Nat} {es:List (List V)} {a b c:Bool}:(Obj.arr s g es a b c).arr?=some (s,g,es,a,b,c):=(rfl)
@[simp] theorem mp?_mp {es:List (V×V)}:(Obj.mp es).mp?=some es:=(rfl)
@[simp] theorem put_n {o:Obj} {k:Nat}:(hs.put k o).n=hs.n:=(rfl)
@[simp] theorem wr_n {o:Obj} {k:Nat}:(hs.wr k o).n=hs.n:=(rfl)
@[simp] theorem arrOf_n {n:Nat} {e:TypeId}:arrOf (.array n e)=some e:=(rfl)
@[simp] theorem isStructD_arr {n:Nat} {e:TypeId}:isStructD (.array n e)=false:=(rfl)
@[simp] theorem isAggD_arr {n:Nat} {e:TypeId}:isAggD (.array n e)=true:=(rfl)
@[simp] theorem elemOf_sl {e:TypeId}:elemOf (.slice e)=some (e,none):=(rfl)
@[simp] theorem elemOf_arr {n:Nat} {e:TypeId}:elemOf (.array n e)=some (e,some n):=(rfl)
@[simp] theorem idxV_none {e:TI} {n:Nat} {v:V}:idxV none e n v=indexAddrV e n v:=(rfl)
@[simp] theorem idxV_some {k:Nat} {e:TI} {n:Nat} {v:V}:idxV (some k) e n v=gd (Nat.blt n k) (fieldAddrV (n*e.size) v):=(rfl)
@[simp] theorem sliceOf_sl {e:TypeId}:sliceOf (.slice e)=some e:=(rfl)
@[simp] theorem mapOf_mp {k e:TypeId}:mapOf (.map k e)=some (k,e):=(rfl)
@[simp] theorem binJ_int {P:Program} {b:BinOp} {t:TypeId} {k k':IntKind} {m n:Int}:binJ P b t (.int k m) (.int k' n)=bi (isShift b) (shiftJ b k m n) (gd (kindEq k k') (arith b k m n)):=(rfl)
@[simp] theorem kindEq_self {k:IntKind}:kindEq k k=true:=by cases k<;>rfl
@[simp] theorem binJ_str {P:Program} {b:BinOp} {t:TypeId} {m n:List Nat}:binJ P b t (.str m) (.str n)=strOp b m n:=(rfl)
@[simp] theorem binJ_bool {P:Program} {b:BinOp} {t:TypeId} {m n:Bool}:binJ P b t (.bool m) (.bool n)=otherOp P b t (.bool m) (.bool n):=(rfl)
end
@[simp] theorem ob_some_n {α β:Type} (a:α) (f:α→Option β):ob (some a) f=f a:=(rfl)
@[simp] theorem ob_none_n {α β:Type} (f:α→Option β):ob none f=none:=(rfl)
@[simp] theorem gd_true_n {β:Type} (x:Option β):gd true x=x:=(rfl)
@[simp] theorem gd_false_n {β:Type} (x:Option β):gd false x=none:=(rfl)
@[simp] theorem bi_true_n {α:Type} (x y:α):bi true x y=x:=(rfl)
@[simp] theorem bi_false_n {α:Type} (x y:α):bi false x y=y:=(rfl)
@[simp] theorem orc_some_n {α β:Type} (z:β) (f:α→β) (a:α):orc z f (some a)=f a:=(rfl)
@[simp] theorem orc_none_n {α β:Type} (z:β) (f:α→β):orc z f none=z:=(rfl)
@[simp] theorem get_leaf_n {α:Type} (n:Nat):(PT.leaf:PT α).get n=none:=(rfl)
@[simp] theorem evalL_nil_n {T:PT V}:evalL T []=some []:=(rfl)
@[simp] theorem evalL_cons_n {T:PT V} (o:Operand) (l:List Operand):evalL T (o::l)=ob (evalO T o) fun v=>ob (evalL T l) fun r=>some (v::r):=(rfl)
attribute [simp] ok_some ok_ob ok_gd PT.set_get put_get wr_get lenL_eq nthL_eq takeL_eq dropL_eq appL_eq setL_eq repL_eq boolEq_eq
@[simp] theorem beq_dec {a b:Nat}:Nat.beq a b=decide (a=b):=by rw[Bool.eq_iff_iff];simp
@[simp] theorem ble_dec {a b:Nat}:Nat.ble a b=decide (a≤b):=by rw[Bool.eq_iff_iff];simp
@[simp] theorem blt_dec {a b:Nat}:Nat.blt a b=decide (a<b):=by rw[Bool.eq_iff_iff,J.blt_true];simp
@[simp ↓] theorem then_normal {K:PT V→HS→Prop} {Q:Ex→PT V→HS→Prop} {T:PT V} {hs:HS}:Ex.then K Q .normal T hs=K T hs:=(rfl)
@[simp ↓] theorem then_ret {K:PT V→HS→Prop} {Q:Ex→PT V→HS→Prop} {T:PT V} {hs:HS}:Ex.then K Q .ret T hs=Q .ret T hs:=(rfl)
@[simp ↓] theorem then_exit {i:Nat} {K:PT V→HS→Prop} {Q:Ex→PT V→HS→Prop} {T:PT V} {hs:HS}:Ex.then K Q (.exit i) T hs=Q (.exit i) T hs:=(rfl)
@[simp ↓] theorem blk_normal {id:Nat} {Q:Ex→PT V→HS→Prop} {T:PT V} {hs:HS}:Ex.inBlock id Q .normal T hs=Q .normal T hs:=(rfl)
@[simp ↓] theorem blk_ret {id:Nat} {Q:Ex→PT V→HS→Prop} {T:PT V} {hs:HS}:Ex.inBlock id Q .ret T hs=Q .ret T hs:=(rfl)
@[simp ↓] theorem blk_exit {id i:Nat} {Q:Ex→PT V→HS→Prop} {T:PT V} {hs:HS}:Ex.inBlock id Q (.exit i) T hs=if i=id then Q .normal T hs else Q (.exit i) T hs:=(rfl)
@[simp] theorem resJ_nil {P:Program} {T:PT V} {hs:HS}:resJ P T hs []=some []:=(rfl)
@[simp] theorem resJ_tmp {P:Program} {T:PT V} {hs:HS} {t:Tmp} {l:List ResultVar}:resJ P T hs (.tmp t::l)=ob (T.get t) fun v=>ob (resJ P T hs l) fun r=>some (v::r):=(rfl)
@[simp] theorem resJ_cell {P:Program} {T:PT V} {hs:HS} {a:Tmp} {t:TypeId} {l:List ResultVar}:resJ P T hs (.cell a t::l)=ob (ob (ti P t) fun i=>ob (T.get a) fun p=>loadJ i hs p) fun v=>ob (resJ P T hs l) fun r=>some (v::r):=(rfl)
@[simp] theorem tupleJ_one {v:V}:tupleJ [v]=v:=(rfl)
@[simp] theorem tupleJ_two {v u:V} {l:List V}:tupleJ (v::u::l)=.tuple (v::u::l):=(rfl)
attribute [simp] Leaves_ret Leaves_normal
attribute [simp] et_eq nt_eq ltI_dec leI_dec wrapJ_eq
@[simp] theorem eqI_dec {a b:Int}:eqI a b=decide (a=b):=by rw[Bool.eq_iff_iff,eqI_true];simp
@[simp] theorem isShift_add:isShift .add=false:=(rfl)
@[simp] theorem isShift_sub:isShift .sub=false:=(rfl)
@[simp] theorem isShift_mul:isShift .mul=false:=(rfl)
@[simp] theorem isShift_quo:isShift .quo=false:=(rfl)
@[simp] theorem isShift_rem:isShift .rem=false:=(rfl)
@[simp] theorem isShift_eql:isShift .eql=false:=(rfl)
@[simp] theorem isShift_neq:isShift .neq=false:=(rfl)
@[simp] theorem isShift_lss:isShift .lss=false:=(rfl)
@[simp] theorem isShift_leq:isShift .leq=false:=(rfl)
@[simp] theorem isShift_gtr:isShift .gtr=false:=(rfl)
@[simp] theorem isShift_geq:isShift .geq=false:=(rfl)
@[simp] theorem isShift_and:isShift .and=false:=(rfl)
@[simp] theorem isShift_or:isShift .or=false:=(rfl)
@[simp] theorem isShift_xor:isShift .xor=false:=(rfl)
section
variable {k:IntKind}{a b:Int}{hs:HS}{P:Program}{T:PT V}
@[simp] theorem arith_add:arith .add k a b=some (.int k (wrapJ k (a+b))):=(rfl)
@[simp] theorem arith_sub:arith .sub k a b=some (.int k (wrapJ k (a-b))):=(rfl)
@[simp] theorem arith_mul:arith .mul k a b=some (.int k (wrapJ k (a*b))):=(rfl)
@[simp] theorem arith_quo:arith .quo k a b=gd (nt (eqI b 0)) (some (.int k (wrapJ k (a.tdiv b)))):=(rfl)
@[simp] theorem arith_rem:arith .rem k a b=gd (nt (eqI b 0)) (some (.int k (a.tmod b))):=(rfl)
@[simp] theorem arith_eql:arith .eql k a b=some (.bool (eqI a b)):=(rfl)
@[simp] theorem arith_neq:arith .neq k a b=some (.bool (nt (eqI a b))):=(rfl)
@[simp] theorem arith_lss:arith .lss k a b=some (.bool (ltI a b)):=(rfl)
@[simp] theorem arith_leq:arith .leq k a b=some (.bool (leI a b)):=(rfl)
@[simp] theorem arith_gtr:arith .gtr k a b=some (.bool (ltI b a)):=(rfl)
@[simp] theorem isShift_shr:isShift .shr=true:=(rfl)
@[simp] theorem shiftJ_shr:shiftJ .shr k a b=ob (natI b) fun m=>some (.int k (a.fdiv (2 ^ min m k.bits))):=(rfl)
@[simp] theorem arith_and:arith .and k a b=some (.int k (andI k a b)):=(rfl)
@[simp] theorem arith_geq:arith .geq k a b=some (.bool (leI b a)):=(rfl)
@[simp] theorem strOp_eql {x y:List Nat}:strOp .eql x y=some (.bool (eqNs x y)):=(rfl)
@[simp] theorem strOp_neq {x y:List Nat}:strOp .neq x y=some (.bool (nt (eqNs x y))):=(rfl)
@[simp] theorem strOp_lss {x y:List Nat}:strOp .lss x y=some (.bool (ltNs x y)):=(rfl)
@[simp] theorem strOp_gtr {x y:List Nat}:strOp .gtr x y=some (.bool (bi (ltNs x y) false (nt (eqNs x y)))):=(rfl)
@[simp] theorem otherOp_eql {t:TypeId} {x y:V}:otherOp P .eql t x y=ob (eqV P t x y) fun b=>some (.bool b):=(rfl)
@[simp] theorem otherOp_neq {t:TypeId} {x y:V}:otherOp P .neq t x y=ob (eqV P t x y) fun b=>some (.bool (nt b)):=(rfl)
@[simp] theorem eqD_bool {x y:V}:eqD .bool x y=ob x.bool? fun a=>ob y.bool? fun b=>some (boolEq a b):=(rfl)
@[simp] theorem eqD_slice {e:TypeId} {x y:V}:eqD (.slice e) x y=eqNil (nilS x) (nilS y):=(rfl)
@[simp] theorem eqD_map {e f:TypeId} {x y:V}:eqD (.map e f) x y=eqNil (nilM x) (nilM y):=(rfl)
@[simp] theorem eqD_pointer {e:TypeId} {x y:V}:eqD (.pointer e) x y=eqNil (nilP x) (nilP y):=(rfl)
@[simp] theorem eqD_func {a b:Array TypeId} {c:Bool} {x y:V}:eqD (.func a b c) x y=eqNil (nilF x) (nilF y):=(rfl)
@[simp] theorem nilS_snil:nilS .snil=some true:=(rfl)
@[simp] theorem nilS_own {a b c d:Nat} {e:Option Nat}:nilS (.own a b c d e)=some false:=(rfl)
@[simp] theorem nilS_sl {e:List V} {l:List (List V)} {t:Bool}:nilS (.sl (e::l) t)=some false:=(rfl)
@[simp] theorem nilM_nil:nilM .nilmap=some true:=(rfl)
@[simp] theorem nilM_map {i:Nat}:nilM (.map i)=some false:=(rfl)
@[simp] theorem nilP_nil:nilP .nilptr=some true:=(rfl)
@[simp] theorem nilP_ptr {i g o:Nat}:nilP (.ptr i g o)=some false:=(rfl)
@[simp] theorem nilP_ref {c:List V}:nilP (.ref c)=some false:=(rfl)
@[simp] theorem nilF_nil:nilF .nilFunc=some true:=(rfl)
@[simp] theorem nilF_func {f:Nat} {c:List V}:nilF (.func f c)=some false:=(rfl)
@[simp] theorem eqNil_n {a b:Option Bool}:eqNil a b=ob a fun a=>ob b fun b=>bi a (some b) (bi b (some false) none):=(rfl)
@[simp] theorem eqV_n {t:TypeId} {x y:V}:eqV P t x y=ob (ti P t) fun i=>eqW P t i.desc x y:=(rfl)
@[simp] theorem eqW_bool {t:TypeId} {x y:V}:eqW P t .bool x y=eqD .bool x y:=(rfl)
@[simp] theorem eqW_slice {t e:TypeId} {x y:V}:eqW P t (.slice e) x y=eqD (.slice e) x y:=(rfl)
@[simp] theorem eqW_map {t e f:TypeId} {x y:V}:eqW P t (.map e f) x y=eqD (.map e f) x y:=(rfl)
@[simp] theorem eqW_pointer {t e:TypeId} {x y:V}:eqW P t (.pointer e) x y=eqD (.pointer e) x y:=(rfl)
@[simp] theorem eqW_func {t:TypeId} {a b:Array TypeId} {c:Bool} {x y:V}:eqW P t (.func a b c) x y=eqD (.func a b c) x y:=(rfl)
@[simp] theorem isNilC_tmp {k:Nat}:isNilC (.tmp k)=false:=(rfl)
@[simp] theorem isNilC_func {k:Nat}:isNilC (.func k)=false:=(rfl)
@[simp] theorem isNilC_nil:isNilC (.const .nilIface)=true:=(rfl)
@[simp] theorem isNilC_int {k:IntKind} {n:Int}:isNilC (.const (.int k n))=false:=(rfl)
@[simp] theorem isNilC_bool {b:Bool}:isNilC (.const (.bool b))=false:=(rfl)
@[simp] theorem isNilC_string {s:ByteArray}:isNilC (.const (.string s))=false:=(rfl)
@[simp] theorem isNilC_slice {a:Option Addr} {n c:Nat}:isNilC (.const (.slice a n c))=false:=(rfl)
@[simp] theorem isNilC_pointer {a:Option Addr}:isNilC (.const (.pointer a))=false:=(rfl)
@[simp] theorem isNilC_map {a:Option Nat}:isNilC (.const (.map a))=false:=(rfl)
@[simp] theorem isNilC_nilFunc:isNilC (.const .nilFunc)=false:=(rfl)
@[simp] theorem nilJ_n {op:BinOp} {t:TypeId} {a:V}:nilJ P op t a=ob (ti P t) fun i=>gd (isIface i.desc) (ob (nilI a) fun b=>match op with
  |.eql=>some (.bool b)
  |.neq=>some (.bool (nt b))
  |_=>none):=(rfl)
@[simp] theorem nilI_nil:nilI .nilIface=some true:=(rfl)
@[simp] theorem nilI_iface {t:TypeId} {v:V}:nilI (.iface t v)=some false:=(rfl)
@[simp] theorem isIface_n {m}:isIface (.interface m)=true:=(rfl)
@[simp] theorem getRow_eq {i g:Nat}:getRow hs i g=ob (hs.H.get i) fun o=>ob o.arr? fun a=>gd (et (Nat.beq g a.2.1) (nt (Nat.beq a.1 0))) (some (a.1,a.2.2)):=(rfl)
@[simp] theorem isRow_eq {i:Nat}:isRow hs i=orc false (fun o=>orc false (fun a=>a.2.2.2.2.2) o.arr?) (hs.H.get i):=(rfl)
@[simp] theorem loadRow_n {i:TI} {a:Nat×List (List V)×Bool×Bool×Bool} {off:Nat}:loadRow i a off=ob (nthL a.2.1 (off / a.1)) fun e=>partL i e (off % a.1):=(rfl)
@[simp] theorem partL_n {i:TI} {cs:List V} {off:Nat}:partL i cs off=bi (isAggD i.desc) (aggL i.size (takeL i.size (dropL off cs))) (nthL cs off):=(rfl)
@[simp] theorem aggL_n {n:Nat} {r:List V}:aggL n r=gd (Nat.beq (lenL r) n) (some (.agg r)):=(rfl)
@[simp] theorem storeRow_n {i:TI} {id g off:Nat} {v:V}:storeRow i id g off v hs=ob (getRow hs id g) fun a=>gd (nt a.2.2.2.1) (gd (et (allC v.cells) (et (Nat.beq (lenL v.cells) i.size) (Nat.ble (off % a.1+i.size) a.1)))
 (ob (nthL a.2.1 (off / a.1)) fun e=>some (hs.wr id (.arr a.1 g (setL a.2.1 (off / a.1) (overL e (off % a.1) v.cells)) a.2.2.1 false a.2.2.2.2)))):=(rfl)
@[simp] theorem overL_nil {α:Type} (n:Nat) (l:List α):overL ([]:List α) n l=[]:=(rfl)
@[simp] theorem overL_zero_nil {α:Type} (x:α) (t:List α):overL (x::t) 0 []=x::t:=(rfl)
@[simp] theorem overL_zero_cons {α:Type} (x:α) (t:List α) (y:α) (ys:List α):overL (x::t) 0 (y::ys)=y::overL t 0 ys:=(rfl)
@[simp] theorem overL_succ {α:Type} (x:α) (t:List α) (n:Nat) (l:List α):overL (x::t) (n+1) l=x::overL t n l:=(rfl)
@[simp] theorem lenOp_n {ts:List TypeId} {vs:List V}:lenOpJ P hs ts vs=ob (headTI P ts) fun i=>ob (oneL vs) fun x=>ob (lenJ hs i.desc x) fun n=>some (.int .i64 (Int.ofNat n),hs):=(rfl)
@[simp] theorem minmax_n {l:Bool} {vs:List V}:minmaxJ hs l vs=ob (twoL vs) fun p=>ob p.1.int? fun a=>ob p.2.int? fun b=>some (.int a.1 (bi (bi l (ltI b.2 a.2) (ltI a.2 b.2)) b.2 a.2),hs):=(rfl)
@[simp] theorem headTI_cons {t:TypeId} {l:List TypeId}:headTI P (t::l)=ti P t:=(rfl)
@[simp] theorem put_H {i:Nat} {o:Obj}:(hs.put i o).H=hs.H.set i o:=(rfl)
@[simp] theorem put_log {i:Nat} {o:Obj}:(hs.put i o).log=hs.log:=(rfl)
@[simp] theorem wr_H {i:Nat} {o:Obj}:(hs.wr i o).H=hs.H.set i o:=(rfl)
@[simp] theorem wr_log {i:Nat} {o:Obj}:(hs.wr i o).log=i::hs.log:=(rfl)
@[simp] theorem oneL_one {v:V}:oneL [v]=some v:=(rfl)
@[simp] theorem twoL_two {v u:V}:twoL [v,u]=some (v,u):=(rfl)
@[simp] theorem lenJ_str {s:List Nat}:lenJ hs .string (.str s)=some (lenL s):=(rfl)
@[simp] theorem lenJ_snil {e:TypeId}:lenJ hs (.slice e) .snil=some 0:=(rfl)
@[simp] theorem lenJ_sl {e:TypeId} {es:List (List V)} {t:Bool}:lenJ hs (.slice e) (.sl es t)=some (lenL es):=(rfl)
@[simp] theorem lenJ_own {e:TypeId} {i g o n:Nat} {c:Option Nat}:lenJ hs (.slice e) (.own i g o n c)=some n:=(rfl)
@[simp] theorem lenJ_nilmap {k e:TypeId}:lenJ hs (.map k e) .nilmap=some 0:=(rfl)
@[simp] theorem lenJ_map {k e:TypeId} {i:Nat}:lenJ hs (.map k e) (.map i)=ob (hs.H.get i) fun o=>ob o.mp? fun es=>some (lenL es):=(rfl)
@[simp] theorem unOp_not {x:Operand}:unOpJ T hs .not x=ob (evalO T x) fun v=>ob v.bool? fun b=>some (.bool (nt b),hs):=(rfl)
@[simp] theorem unOp_neg {x:Operand}:unOpJ T hs .neg x=ob (evalO T x) fun v=>ob v.int? fun p=>some (.int p.1 (wrapJ p.1 (0-p.2)),hs):=(rfl)
@[simp] theorem convV_int {v:V}:convV (.int k) v=ob v.int? fun p=>some (.int k (wrapJ k p.2)):=(rfl)
@[simp] theorem convV_str {v:V}:convV .string v=ob v.str? fun s=>some (.str s):=(rfl)
@[simp] theorem notNil_ptr {i g o:Nat}:notNil (.ptr i g o)=true:=(rfl)
@[simp] theorem notNil_ref {c:List V}:notNil (.ref c)=true:=(rfl)
@[simp] theorem notNil_func {f:Nat} {c:List V}:notNil (.func f c)=true:=(rfl)
@[simp] theorem isAgg_int:isAggD (.int k)=false:=(rfl)
@[simp] theorem isAgg_bool:isAggD .bool=false:=(rfl)
@[simp] theorem isAgg_str:isAggD .string=false:=(rfl)
@[simp] theorem isAgg_slice {e:TypeId}:isAggD (.slice e)=false:=(rfl)
@[simp] theorem isAgg_map {e f:TypeId}:isAggD (.map e f)=false:=(rfl)
@[simp] theorem isAgg_pointer {e:TypeId}:isAggD (.pointer e)=false:=(rfl)
@[simp] theorem isAgg_func {e f:Array TypeId} {c:Bool}:isAggD (.func e f c)=false:=(rfl)
@[simp] theorem Gives_int {n:Int} {r:V}:Gives r (.int k n) hs=(.int k n=r):=by show (some (V.int k n)=some r)=_;simp
@[simp] theorem Gives_bool {b:Bool} {r:V}:Gives r (.bool b) hs=(.bool b=r):=by show (some (V.bool b)=some r)=_;simp
@[simp] theorem Gives_str {b:List Nat} {r:V}:Gives r (.str b) hs=(.str b=r):=by show (some (V.str b)=some r)=_;simp
end
section
variable {P:Program}{T:PT V}{hs:HS}{id:Nat}
@[simp] theorem roomOk_n {n b:Nat}:roomOk n b=decide (n*b≤1048576):=by show Nat.ble _ _=_;simp
@[simp] theorem makeSliceOp_n {t:TypeId} {l c:Operand}:makeSliceOpJ P T hs id t l c=ob (ti P t) fun i=>ob (evalO T l) fun a=>ob (evalO T c) fun b=>makeSliceJ P i hs id a b:=(rfl)
@[simp] theorem makeSlice_n {i:TI} {l c:V}:makeSliceJ P i hs id l c=ob (sliceOf i.desc) fun el=>ob (ti P el) fun e=>ob l.nat? fun l=>ob c.nat? fun c =>
 gd (et (Nat.ble l c) (et (roomOk c e.bytes) (et (Nat.ble (c*e.size) 1048576) (et (nt (Nat.beq e.size 0)) (et (Nat.beq (lenL e.zero) e.size) (allP e.zero))))))
  (some (.own id 0 0 l (some c),hs.put id (.arr e.size 0 (repL e.zero c) true false true))):=(rfl)
@[simp] theorem buildAJ_nil_n {n:Nat} {cells:List V}:buildAJ T n [] cells=some cells:=(rfl)
@[simp] theorem buildAJ_cons_n {n k:Nat} {o:Operand} {l:List (Nat×Operand)} {cells:List V}:buildAJ T n ((k,o)::l) cells=ob (evalO T o) fun v=>gd (et (Nat.beq (lenL v.cells) n) (Nat.ble (k*n+n) (lenL cells))) (buildAJ T n l (overL cells (k*n) v.cells)):=(rfl)
@[simp] theorem buildJ_nil_n {i:TI} {cells:List V}:buildJ P T i [] cells=some cells:=(rfl)
@[simp] theorem buildJ_cons_n {i:TI} {k:Nat} {o:Operand} {l:List (Nat×Operand)} {cells:List V}:buildJ P T i ((k,o)::l) cells=ob (fieldOf i k) fun fd=>ob (ti P fd.type) fun fi=>ob (evalO T o) fun v =>
 gd (et (Nat.beq (lenL v.cells) fi.size) (Nat.ble (fd.offset+fi.size) (lenL cells))) (buildJ P T i l (overL cells fd.offset v.cells)):=(rfl)
@[simp] theorem partsJ_nil_n {dr:Bool} {e:TI} {len:Nat} {es:List (List V)}:partsJ dr T e len [] hs es=some (es,hs):=(rfl)
@[simp] theorem partsJ_cons_n {dr:Bool} {e:TI} {len k:Nat} {o:Operand} {l:List (Nat×Operand)} {es:List (List V)}:partsJ dr T e len ((k,o)::l) hs es=ob (evalO T o) fun v=>ob (cleanJ dr v hs) fun r =>
 gd (et (Nat.beq (lenL r.1.cells) e.size) (Nat.blt k len)) (partsJ dr T e len l r.2 (setL es k r.1.cells)):=(rfl)
@[simp] theorem cleanJ_false {v:V}:cleanJ false v hs=purify v hs:=(rfl)
@[simp] theorem cleanJ_true {v:V}:cleanJ true v hs=gd v.pure (some (v,hs)):=(rfl)
@[simp] theorem buildSliceOp_n {dr:Bool} {t:TypeId} {len:Nat} {ps:Array (Nat×Operand)}:buildSliceOpJ P dr T hs id t len ps=ob (ti P t) fun i=>ob (sliceOf i.desc) fun el=>ob (ti P el) fun e =>
 gd (et (Nat.ble (len*e.size) 1048576) (et (nt (Nat.beq e.size 0)) (et (Nat.beq (lenL e.zero) e.size) (allP e.zero))))
  (ob (partsJ dr T e len ps.toList hs (repL e.zero len)) fun r=>some (bi (Nat.beq e.bytes 128) (.own id 0 0 len (some len)) (.sl r.1 true),r.2.put id (bi (Nat.beq e.bytes 128) (.arr e.size 0 r.1 true false true) (.mp [])))):=(rfl)
@[simp] theorem elemTI_cons {t:TypeId} {l:List TypeId}:elemTI P (t::l)=ob (ti P t) fun i=>ob (sliceOf i.desc) fun el=>ti P el:=(rfl)
@[simp] theorem isSlice2_two {t u:TypeId}:isSlice2 [t,u]=some u:=(rfl)
@[simp] theorem appendOp_n {ts:List TypeId} {vs:List V}:appendOpJ P hs id ts vs=ob (twoL vs) fun p=>ob (elemTI P ts) fun e=>ob (isSlice2 ts) fun u=>ob (ti P u) fun j=>ob (sliceOf j.desc) fun _=>appendJ e hs id p.1 p.2:=(rfl)
@[simp] theorem append_nil {e:TI} {x:V}:appendJ e hs id .snil x=ob (elemsJ hs e.size x) fun new=>gd (et (sizes e.size new) (et (allCells new) (et (nt (Nat.beq e.size 0)) (et (nt (Nat.beq e.bytes 0)) (Nat.beq (lenL e.zero) e.size))))) (appendNil e hs id new):=(rfl)
@[simp] theorem append_sl {e:TI} {es:List (List V)} {t:Bool} {x:V}:appendJ e hs id (.sl es t) x=ob (elemsJ hs e.size x) fun new=>gd (et (sizes e.size new) (et (allCells new) (et (nt (Nat.beq e.size 0)) (et (nt (Nat.beq e.bytes 0)) (Nat.beq (lenL e.zero) e.size))))) (appendSl e hs id es t new):=(rfl)
@[simp] theorem append_own {e:TI} {i g o n:Nat} {c:Option Nat} {x:V}:appendJ e hs id (.own i g o n c) x=ob (elemsJ hs e.size x) fun new=>gd (et (sizes e.size new) (et (allCells new) (et (nt (Nat.beq e.size 0)) (et (nt (Nat.beq e.bytes 0)) (Nat.beq (lenL e.zero) e.size))))) (appendOwn e hs id i g o n c new):=(rfl)
@[simp] theorem appendNil_n {e:TI} {new:List (List V)}:appendNil e hs id new=bi (Nat.beq (lenL new) 0) (some (.snil,hs)) (gd (roomOk (lenL new) e.bytes) (mkRowJ e hs id (lenL new) new)):=(rfl)
@[simp] theorem appendSl_n {e:TI} {es new:List (List V)} {t:Bool}:appendSl e hs id es t new=bi (Nat.beq (lenL new) 0) (some (.sl es t,hs)) (gd (et t (et (roomOk (lenL es+lenL new) e.bytes) (sizes e.size es))) (mkRowJ e hs id (lenL es+lenL new) (appL es new))):=(rfl)
@[simp] theorem mkRow_n {e:TI} {n:Nat} {es:List (List V)}:mkRowJ e hs id n es=some (.own id 0 0 n none,hs.put id (.arr e.size 0 es false false true)):=(rfl)
@[simp] theorem appendOwn_none {e:TI} {i g o n:Nat} {new:List (List V)}:appendOwn e hs id i g o n none new=ob (getRow hs i g) fun a=>gd (et a.2.2.2.2 (et (Nat.beq a.1 e.size) (et (Nat.beq (o % a.1) 0) (roomOk (n+lenL new) e.bytes))))
 (bi (Nat.ble (o / a.1+n+lenL new) (lenL a.2.1)) (appendIn hs i g o n none a new)
     (gd (et (nt a.2.2.2.1) (et (Nat.beq o 0) (Nat.ble n (lenL a.2.1)))) (some (.own i (g+1) 0 (n+lenL new) none,hs.wr i (.arr a.1 (g+1) (appL (takeL n a.2.1) new) false false true))))):=(rfl)
@[simp] theorem appendOwn_some {e:TI} {i g o n c:Nat} {new:List (List V)}:appendOwn e hs id i g o n (some c) new=ob (getRow hs i g) fun a=>gd (et a.2.2.2.2 (et (Nat.beq a.1 e.size) (et (Nat.beq (o % a.1) 0) (roomOk (n+lenL new) e.bytes))))
 (bi (Nat.ble (n+lenL new) c) (appendIn hs i g o n (some c) a new) (ob (cutRow a.1 o n a.2.1) fun old=>mkRowJ e hs id (n+lenL new) (appL old new))):=(rfl)
@[simp] theorem appendIn_n {i g o n:Nat} {c:Option Nat} {a:Nat×List (List V)×Bool×Bool×Bool} {new:List (List V)}:appendIn hs i g o n c a new=gd (et (nt a.2.2.2.1) (Nat.ble (o / a.1+n+lenL new) (lenL a.2.1)))
 (some (.own i g o (n+lenL new) c,hs.wr i (.arr a.1 g (overL a.2.1 (o / a.1+n) new) a.2.2.1 false a.2.2.2.2))):=(rfl)
@[simp] theorem cutRow_n {size off len:Nat} {es:List (List V)}:cutRow size off len es=gd (et (Nat.beq (off % size) 0) (Nat.ble (off / size+len) (lenL es))) (some (takeL len (dropL (off / size) es))):=(rfl)
@[simp] theorem elemsJ_snil {n:Nat}:elemsJ hs n .snil=some []:=(rfl)
@[simp] theorem elemsJ_sl {n:Nat} {es:List (List V)} {t:Bool}:elemsJ hs n (.sl es t)=some es:=(rfl)
@[simp] theorem elemsJ_own {n i g o k:Nat} {c:Option Nat}:elemsJ hs n (.own i g o k c)=ob (getRow hs i g) fun a=>gd (et a.2.2.2.2 (Nat.beq a.1 n)) (cutRow a.1 o k a.2.1):=(rfl)
@[simp] theorem copyOp_n {ts:List TypeId} {vs:List V}:copyOpJ P hs ts vs=ob (twoL vs) fun p=>ob (elemTI P ts) fun e=>ob (isSlice2 ts) fun _=>copyJ e hs p.1 p.2:=(rfl)
@[simp] theorem copyJ_own {e:TI} {i g o n:Nat} {c:Option Nat} {x:V}:copyJ e hs (.own i g o n c) x=ob (elemsJ hs e.size x) fun src=>copyOwn e hs i g o n src:=(rfl)
@[simp] theorem copyOwn_n {e:TI} {i g o n:Nat} {src:List (List V)}:copyOwn e hs i g o n src=ob (getRow hs i g) fun a=>gd (et (nt a.2.2.2.1) (et a.2.2.2.2 (et (Nat.beq a.1 e.size) (et (Nat.beq (o % a.1) 0) (et (sizes e.size src) (et (allCells src) (Nat.ble (o / a.1+minN (lenL src) n) (lenL a.2.1))))))))
 (some (.int .i64 (Int.ofNat (minN (lenL src) n)),hs.wr i (.arr a.1 g (overL a.2.1 (o / a.1) (takeL (minN (lenL src) n) src)) a.2.2.1 false true))):=(rfl)
@[simp] theorem minN_n {a b:Nat}:minN a b=min a b:=by unfold minN;rw[bi_eq];simp only[ble_true];split<;>omega
@[simp] theorem purify_n {v:V}:purify v hs=ob (still2 hs v) fun v'=>some (v',freezeL hs v.cells):=(rfl)
@[simp] theorem still2_agg {l:List V}:still2 hs (.agg l)=ob (stillL hs l) fun l=>some (.agg l):=(rfl)
@[simp] theorem stillL_nil_n:stillL hs []=some []:=(rfl)
@[simp] theorem stillL_cons_n {v:V} {l:List V}:stillL hs (v::l)=ob (still1 hs v) fun v'=>ob (stillL hs l) fun l'=>some (v'::l'):=(rfl)
@[simp] theorem still1_own_n {i g o n:Nat} {c:Option Nat}:still1 hs (.own i g o n c)=ob (getRow hs i g) fun a=>gd a.2.2.2.2 (ob (cutRow a.1 o n a.2.1) fun l=>some (.sl l false)):=(rfl)
@[simp] theorem still1_int {k:IntKind} {n:Int}:still1 hs (.int k n)=some (.int k n):=(rfl)
@[simp] theorem still1_bool {b:Bool}:still1 hs (.bool b)=some (.bool b):=(rfl)
@[simp] theorem still1_str {b:List Nat}:still1 hs (.str b)=some (.str b):=(rfl)
@[simp] theorem still1_sl {es:List (List V)} {b:Bool}:still1 hs (.sl es b)=some (.sl es b):=(rfl)
@[simp] theorem still1_snil:still1 hs .snil=some .snil:=(rfl)
@[simp] theorem freezeL_nil_n:freezeL hs []=hs:=(rfl)
@[simp] theorem freezeL_cons_n {v:V} {l:List V}:freezeL hs (v::l)=freeze1 (freezeL hs l) v:=(rfl)
@[simp] theorem freeze1_own {i g o n:Nat} {c:Option Nat}:freeze1 hs (.own i g o n c)=freezeRow hs i:=(rfl)
@[simp] theorem freeze1_int {k:IntKind} {n:Int}:freeze1 hs (.int k n)=hs:=(rfl)
@[simp] theorem freeze1_bool {b:Bool}:freeze1 hs (.bool b)=hs:=(rfl)
@[simp] theorem freeze1_str {b:List Nat}:freeze1 hs (.str b)=hs:=(rfl)
@[simp] theorem freeze1_sl {es:List (List V)} {b:Bool}:freeze1 hs (.sl es b)=hs:=(rfl)
@[simp] theorem freeze1_snil:freeze1 hs .snil=hs:=(rfl)
@[simp] theorem freezeRow_n {i:Nat}:freezeRow hs i=orc hs (fun o=>orc hs (fun a=>hs.wr i (.arr a.1 a.2.1 a.2.2.1 a.2.2.2.1 true a.2.2.2.2.2)) o.arr?) (hs.H.get i):=(rfl)
@[simp] theorem sizes_nil {n:Nat}:sizes n []=true:=(rfl)
@[simp] theorem sizes_cons {n:Nat} {x:List V} {l:List (List V)}:sizes n (x::l)=et (Nat.beq (lenL x) n) (sizes n l):=(rfl)
@[simp] theorem allCells_nil:allCells []=true:=(rfl)
@[simp] theorem allCells_cons {x:List V} {l:List (List V)}:allCells (x::l)=et (allC x) (allCells l):=(rfl)
end
section
variable {hs:HS}{r:V}
@[simp] theorem Gives_own {i g o n:Nat} {c:Option Nat}:Gives r (.own i g o n c) hs=(still1 hs (.own i g o n c)=some r):=(rfl)
@[simp] theorem Gives_agg {l:List V}:Gives r (.agg l) hs=((ob (stillL hs l) fun l=>some (V.agg l))=some r):=(rfl)
@[simp] theorem Gives_tuple {l:List V}:Gives r (.tuple l) hs=((ob (stillA hs l) fun l=>some (V.tuple l))=some r):=(rfl)
@[simp] theorem Gives_sl {es:List (List V)} {t:Bool}:Gives r (.sl es t) hs=(.sl es t=r):=by show (some (V.sl es t)=some r)=_;simp
@[simp] theorem Gives_snil:Gives r .snil hs=(.snil=r):=by show (some V.snil=some r)=_;simp
@[simp] theorem stillA_nil_n:stillA hs []=some []:=(rfl)
@[simp] theorem stillA_cons_n {v:V} {l:List V}:stillA hs (v::l)=ob (still2 hs v) fun v'=>ob (stillA hs l) fun l'=>some (v'::l'):=(rfl)
@[simp] theorem still2_own_n {i g o n:Nat} {c:Option Nat}:still2 hs (.own i g o n c)=still1 hs (.own i g o n c):=(rfl)
@[simp] theorem still2_int {k:IntKind} {n:Int}:still2 hs (.int k n)=some (.int k n):=(rfl)
@[simp] theorem still2_bool {b:Bool}:still2 hs (.bool b)=some (.bool b):=(rfl)
@[simp] theorem still2_str {b:List Nat}:still2 hs (.str b)=some (.str b):=(rfl)
@[simp] theorem still2_sl {es:List (List V)} {b:Bool}:still2 hs (.sl es b)=some (.sl es b):=(rfl)
@[simp] theorem still2_snil:still2 hs .snil=some .snil:=(rfl)
end
end Go.J
/- Contracts in use. -/
namespace Go.J
abbrev Spec:=List V→HS→Option (V×HS)
def pureS(s:List V→Option V):Spec:=fun vs hs=>gd (allPure vs) (ob (s vs) fun v=>some (v,hs))
def conL(L:List (Nat×Spec))(f:FuncId)(vs:List V)(hs:HS):Option (V×HS):=lr none (fun p _ ih=>bi (Nat.beq f p.1) (p.2 vs hs) ih) L
def envL(P:Program)(pol:FuncId→Nat)(L:List (Nat×Spec)):Env:={ P:=P,pol:=pol,con:=conL L }
structure Valid(ρ:Nat→Value)(P:Program)(f:Nat)(s:Spec):Prop where
 fn:FnOk P f
 ok:∀ {vs hs v hs'},s vs hs=some (v,hs')→CallOk ρ P f vs hs v hs'
 kept:∀ {vs hs r},s vs hs=some r→Kept hs r.2
theorem conL_cons(p:Nat×Spec)(L:List (Nat×Spec))(f:FuncId):conL (p::L) f=if f=p.1 then p.2 else conL L f:=by
 funext vs hs
 show bi (Nat.beq f p.1) (p.2 vs hs) (conL L f vs hs)=_
 grind [bi_eq,beq_true]
theorem consOk_list{ρ:Nat→Value}{P:Program}{pol:FuncId→Nat}:∀ {L:List (Nat×Spec)},(∀ p∈L,Valid ρ P p.1 p.2)→ConsOk ρ (envL P pol L):=by
 intro L h
 have key:∀ (M:List (Nat×Spec)),(∀ p∈M,p∈L)→∀ {f vs hs q},conL M f vs hs=some q→∃ p∈L,p.1=f∧p.2 vs hs=some q:=by
  intro M
  induction M with
  |nil=>intro _ f vs hs q hq;cases hq
  | cons p M ih =>
    intro hM f vs hs q hq
    rw[conL_cons]at hq
    grind
 refine⟨?_,?_,?_⟩
 · intro f vs hs v hs' hq
   obtain⟨p,hp,rfl,h2⟩:=key L (fun _ h=>h) hq
   exact(h p hp).ok h2
 · intro f vs hs q hq
   obtain⟨p,hp,rfl,h2⟩:=key L (fun _ h=>h) hq
   exact(h p hp).kept h2
 · intro f vs hs q hq
   obtain⟨p,hp,rfl,h2⟩:=key L (fun _ h=>h) hq
   exact(h p hp).fn
theorem valid_nil{ρ:Nat→Value}{P:Program}:∀ p∈([]:List (Nat×Spec)),Valid ρ P p.1 p.2:=fun p h=>by cases h
theorem valid_cons{ρ:Nat→Value}{P:Program}{f:Nat}{s:Spec}{L:List (Nat×Spec)}(h:Valid ρ P f s)(hl:∀ p∈L,Valid ρ P p.1 p.2):∀ p∈(f,s)::L,Valid ρ P p.1 p.2:=by
 grind
theorem Valid.pure{ρ:Nat→Value}(hρ:Good ρ){P:Program}(hP:P.follows .mixedOrders=true)(hN:Named P){f:Nat}{s:List V→Option V}(hf:FnOk P f)
 (h:∀ vs v,allPure vs=true→s vs=some v→∃ E n,ConsOk ρ E∧E.P=P∧runJ E n f vs=some v):Valid ρ P f (pureS s) where
 fn:=hf
 ok:=by
  intro vs hs v hs' hq
  simp only[pureS,gd_eq,ob_eq]at hq
  obtain⟨hp,v',hv,hq⟩:=hq
  cases hq
  obtain⟨E,n,hc,rfl,hr⟩:=h vs v hp hv
  exact pure_callOk hρ hc hP hN hr hp
 kept:=by
  intro vs hs q hq
  simp only[pureS,gd_eq,ob_eq]at hq
  obtain⟨_,v',_,hq⟩:=hq
  cases hq
  exact .refl _
theorem still_pure{hs:HS}:∀ {l:List V},(∀ x∈l,x.pure2=true)→stillL hs l=some l:=by
 intro l
 induction l with
 |nil=>intro _;rfl
 | cons v l ih =>
   intro h
   show (ob (still1 hs v) fun v'=>ob (stillL hs l) fun l'=>some (v'::l'))=_
   have hv:=h v (List.mem_cons_self ..)
   have e:still1 hs v=some v:=by
    unfold still1
    split
    · cases hv
    · rw[hv];rfl
   simp_all
theorem still_agg{hs:HS}{l:List V}(h:∀ x∈l,x.pure2=true):still hs (.agg l)=some (.agg l):=by
 show (ob (stillL hs l) fun l=>some (V.agg l))=_
 rw[still_pure h];rfl
theorem still1_scal{hs:HS}{u v:V}(h:still1 hs u=some v)(hs1:v.scal1=true):u=v:=by
 unfold still1 at h
 split at h
 · unfold stillRow at h
   simp only[ob_eq,gd_eq]at h
   obtain⟨_,_,_,_,_,h⟩:=h
   cases h;cases hs1
 grind [gd_eq,Option.some.inj]
theorem stillL_scal{hs:HS}:∀ {l m:List V},stillL hs l=some m→allS m=true→l=m:=by
 intro l
 induction l with
 |nil=>intro m h _;cases h;rfl
 | cons u l ih =>
   intro m h hm
   replace h:(ob (still1 hs u) fun v'=>ob (stillL hs l) fun l'=>some (v'::l'))=some m:=h
   simp only[ob_eq]at h
   obtain⟨v,hv,r,hr,h⟩:=h
   cases h
   replace hm:et v.scal1 (allS r)=true:=hm
   grind [et_true,still1_scal]
theorem still2_scal{hs:HS}{u v:V}(h:still2 hs u=some v)(hs1:v.scal1=true):u=v:=by
 unfold still2 at h
 split at h
 · simp only[ob_eq]at h
   obtain⟨_,_,h⟩:=h
   cases h;cases hs1
 · exact still1_scal h hs1
theorem stillA_scal{hs:HS}:∀ {l m:List V},stillA hs l=some m→allS m=true→l=m:=by
 intro l
 induction l with
 |nil=>intro m h _;cases h;rfl
 | cons u l ih =>
   intro m h hm
   replace h:(ob (still2 hs u) fun v'=>ob (stillA hs l) fun l'=>some (v'::l'))=some m:=h
   simp only[ob_eq]at h
   obtain⟨v,hv,r,hr,h⟩:=h
   cases h
   replace hm:et v.scal1 (allS r)=true:=hm
   grind [et_true,still2_scal]
theorem still_scal {hs:HS} {u v:V} (h:still hs u=some v) (hv:v.scal=true):u=v:=by
 unfold still at h
 split at h
 · simp only[ob_eq]at h
   obtain⟨l,hl,h⟩:=h
   cases h
   rw[stillA_scal hl hv]
 · unfold still2 at h
   split at h
   · simp only[ob_eq]at h
     obtain⟨l,hl,h⟩:=h
     cases h
     rw[stillL_scal hl hv]
   · refine still1_scal h ?_
     rename_i _ hne1 _ hne2
     cases v<;>first|exact hv|skip
     all_goals
      exfalso
      unfold still1 at h
      split at h
      · unfold stillRow at h
        simp only[ob_eq,gd_eq]at h
        obtain⟨_,_,_,_,_,h⟩:=h
        cases h
      · simp only[gd_eq]at h
        have e:=Option.some.inj h.2
        first|exact hne1 _ e|exact hne2 _ e
def scalS(s:List V→Option V):Spec:=fun vs hs=>ob (stillA hs vs) fun vs'=>gd (allPure vs') (ob (s vs') fun v=>gd v.scal (some (v,hs)))
theorem Valid.scal{ρ:Nat→Value}(hρ:Good ρ){P:Program}(hP:P.follows .mixedOrders=true)(hN:Named P){f:Nat}{s:List V→Option V}(hf:FnOk P f)
 (h:∀ vs v,allPure vs=true→s vs=some v→∃ E n,ConsOk ρ E∧E.P=P∧runJ E n f vs=some v):Valid ρ P f (scalS s) where
 fn:=hf
 ok:=by
  intro vs hs v hs' hq
  simp only[scalS,gd_eq,ob_eq]at hq
  obtain⟨vs',hst,hp,v',hv,hsc,hq⟩:=hq
  cases hq
  obtain⟨E,n,hc,rfl,hr⟩:=h vs' v hp hv
  simp only[runJ,ob_eq]at hr
  obtain⟨⟨v1,hs1⟩,h1,h2⟩:=hr
  have e:v1=v:=still_scal h2 hsc
  subst e
  refine callScal_ok (ev:=evJ E n) hst (fun h=>(evJ_ok hρ hc hP hN n).call h) ?_
  simp only[callScal,ob_eq,gd_eq]
  exact⟨(v1,hs1),h1,hsc,rfl⟩
 kept:=by
  intro vs hs q hq
  simp only[scalS,gd_eq,ob_eq]at hq
  obtain⟨_,_,_,_,_,_,hq⟩:=hq
  cases hq
  exact .refl _
def frzS(s:List V→Option V):Spec:=fun vs hs=>ob (purifyA vs hs) fun q=>gd (allPure q.1) (ob (s q.1) fun v=>some (v,q.2))
section
variable {vs:List V}{hs:HS}{s:List V→Option V}{K:V×HS→Prop}
@[simp] theorem pureS_ok:ok (pureS s vs hs) K=(allPure vs=true∧ok (s vs) fun v=>K (v,hs)):=by simp only[pureS,ok_gd,ok_ob,ok_some]
@[simp] theorem scalS_ok:ok (scalS s vs hs) K=ok (stillA hs vs) fun vs'=>allPure vs'=true∧ok (s vs') fun v=>v.scal=true∧K (v,hs):=by simp only[scalS,ok_gd,ok_ob,ok_some]
@[simp] theorem frzS_ok:ok (frzS s vs hs) K=ok (purifyA vs hs) fun q=>allPure q.1=true∧ok (s q.1) fun v=>K (v,q.2):=by simp only[frzS,ok_gd,ok_ob,ok_some]
@[simp] theorem purifyA_nil_n:purifyA [] hs=some ([],hs):=(rfl)
@[simp] theorem purifyA_cons_n {v:V} {l:List V}:purifyA (v::l) hs=ob (purify v hs) fun r=>ob (purifyA l r.2) fun q=>some (r.1::q.1,q.2):=(rfl)
@[simp] theorem allPure_nil:allPure []=true:=(rfl)
@[simp] theorem allPure_cons {v:V} {l:List V}:allPure (v::l)=(v.pure&&allPure l):=by rw[← et_eq];rfl
@[simp] theorem pure_agg {l:List V}:(V.agg l).pure=allP l:=(rfl)
@[simp] theorem allP_nil:allP []=true:=(rfl)
@[simp] theorem allP_cons {v:V} {l:List V}:allP (v::l)=(v.pure2&&allP l):=by rw[← et_eq];rfl
@[simp] theorem pure_int {k:IntKind} {n:Int}:(V.int k n).pure=true:=(rfl)
@[simp] theorem pure_bool {b:Bool}:(V.bool b).pure=true:=(rfl)
@[simp] theorem pure_str {b:List Nat}:(V.str b).pure=true:=(rfl)
@[simp] theorem pure_sl {es:List (List V)} {t:Bool}:(V.sl es t).pure=true:=(rfl)
@[simp] theorem pure_snil:V.snil.pure=true:=(rfl)
@[simp] theorem pure2_int {k:IntKind} {n:Int}:(V.int k n).pure2=true:=(rfl)
@[simp] theorem pure2_bool {b:Bool}:(V.bool b).pure2=true:=(rfl)
@[simp] theorem pure2_str {b:List Nat}:(V.str b).pure2=true:=(rfl)
@[simp] theorem pure2_sl {es:List (List V)} {t:Bool}:(V.sl es t).pure2=true:=(rfl)
@[simp] theorem pure2_snil:V.snil.pure2=true:=(rfl)
@[simp] theorem pure2_nilmap:V.nilmap.pure2=true:=(rfl)
@[simp] theorem pure2_nilFunc:V.nilFunc.pure2=true:=(rfl)
end
end Go.J
/- Rules of rewriting for regions that draw their order. -/
namespace Go.J
section
variable {E:Env}{id:Nat}{T:PT V}{hs:HS}{K:V→HS→List Nat×List Nat→Prop}{sz:Nat}{acc:List (List Nat×List Nat)}{R:PT V→HS→List (List Nat×List Nat)→Prop}
@[simp ↓] theorem Rd_nil:Rd E sz [] id T hs acc R=R T hs acc:=(rfl)
@[simp ↓] theorem Rd_cons {d:Option Tmp} {op:Op} {g:Option (Tmp×Bool)} {lk:List Nat} {l:List SD}:Rd E sz (⟨d,op,g,lk⟩::l) id T hs acc R=wpSD E id (pickT T lk) hs ⟨d,op,g,lk⟩ fun v hs' rw=>put sz T d v fun T1=>Rd E sz l (id+1) T1 hs' (acc++[rw]) R:=by
  show (wpSD E id (pickT T lk) hs ⟨d,op,g,lk⟩ fun v hs' rw=>put sz T d v fun T1=>Rd E sz l (id+1) T1 hs' (appL acc [rw]) R)=_
  simp_all
@[simp ↓] theorem wpSD_n {d:Option Tmp} {op:Op} {lk:List Nat}:wpSD E id T hs ⟨d,op,none,lk⟩ K=wpD E id T hs op K:=(rfl)
@[simp ↓] theorem wpSD_g {d:Option Tmp} {op:Op} {t:Tmp} {w:Bool} {lk:List Nat}:wpSD E id T hs ⟨d,op,some (t,w),lk⟩ K=ok (T.get t) fun v=>ok (v.guard? w) fun q=>br (q=w) (wpD E id T hs op K) (K undefV hs ([],[])):=by
  simp only[br_eq];rfl
def lf:HS:={ H:=.leaf,n:=0,log:=[] }
@[simp] theorem lf_get {k:Nat}:lf.H.get k=none:=(rfl)
@[simp] theorem lf_H:lf.H=.leaf:=(rfl)
def part(hs:HS)(l:List Nat):HS:={ H:=pickT hs.H l,n:=0,log:=[] }
@[simp] theorem part_get {l:List Nat} {k:Nat}:(part hs l).H.get k=if k∈l then hs.H.get k else none:=pickT_get _ _ _
@[simp] theorem pickT_get_n {α:Type} {T:PT α} {l:List Nat} {t:Nat}:(pickT T l).get t=if t∈l then T.get t else none:=pickT_get T l t
def bare(hs:HS):HS:={ H:=hs.H,n:=hs.n,log:=[] }
@[simp] theorem bare_H:(bare hs).H=hs.H:=(rfl)
@[simp] theorem bare_n:(bare hs).n=hs.n:=(rfl)
@[simp] theorem bare_log:(bare hs).log=[]:=(rfl)
theorem wpD_o{op:Op}(h:isStore op=false):wpD E id T hs op K=wpDo E id T hs op K:=by
 cases op<;>first|rfl|cases h
theorem wd_0{op:Op}(hc:opClass op=0)(hn:callOf op=none)(hr:readsOf T op=[]):wpD E id T hs op K=ok (opJ E.P true T lf id (opR op)) fun r=>K r.1 hs ([],[]):=by
 rw[wpD_o (by cases op<;>first|rfl|cases hc)]
 unfold wpDo;rw[hc,hr]
 cases op<;>first|rfl|(cases hn;done)|(cases hc;done)|(show ok (opJ E.P true T { H:=pickT hs.H (readsOf T _),n:=0,log:=[] } id _) (fun r=>K r.1 hs (readsOf T _,[]))=_;rw[hr];rfl)
@[simp ↓] theorem wd_move {x:Operand}:wpD E id T hs (.move x) K=ok (evalO T x) fun v=>K v hs ([],[]):=by
  rw[wd_0 rfl rfl rfl];show ok (ob (evalO T x) fun v=>some (v,lf)) _=_;simp only[ok_ob,ok_some]
@[simp ↓] theorem wd_assign {x:Operand}:wpD E id T hs (.assign x) K=ok (evalO T x) fun v=>K v hs ([],[]):=by
  rw[wd_0 rfl rfl rfl];show ok (ob (evalO T x) fun v=>some (v,lf)) _=_;simp only[ok_ob,ok_some]
@[simp ↓] theorem wd_pick {c a b:Operand}:wpD E id T hs (.pick c a b) K=ok (evalO T c) fun v=>ok v.bool? fun q=>ok (bi q (evalO T a) (evalO T b)) fun v=>K v hs ([],[]):=by
  rw[wd_0 rfl rfl rfl];show ok (pickJ T lf c a b) _=_;simp only[pickJ,ok_ob,ok_some]
@[simp ↓] theorem wd_binOp {b:BinOp} {t u:TypeId} {x y:Operand}:wpD E id T hs (.binOp b t x y u) K=ok (evalO T x) fun p=>ok (evalO T y) fun q=>ok (bi (isNilC y) (nilJ E.P b t p) (binJ E.P b t p q)) fun v=>K v hs ([],[]):=by
  rw[wd_0 rfl rfl rfl];show ok (binOpJ E.P T lf b t x y) _=_;simp only[binOpJ,ok_ob,ok_some]
@[simp ↓] theorem wd_unOp {b:UnOp} {t:TypeId} {x:Operand}:wpD E id T hs (.unOp b t x) K=ok (unOpJ T lf b x) fun r=>K r.1 hs ([],[]):=by
  rw[wd_0 rfl rfl rfl];rfl
@[simp ↓] theorem wd_fieldAddr {t:TypeId} {x:Operand} {f:Nat}:wpD E id T hs (.fieldAddr t x f) K=ok (ti E.P t) fun i=>ok (fieldOf i f) fun fd=>ok (ti E.P fd.type) fun fi=>nt (Nat.beq fi.size 0)=true∧ok (evalO T x) fun v=>ok (fieldAddrV fd.offset v) fun r=>K r hs ([],[]):=by
  rw[wd_0 rfl rfl rfl];show ok (fieldAddrJ E.P T lf t x f) _=_;simp only[fieldAddrJ,ok_ob,ok_gd,ok_some]
@[simp ↓] theorem wd_field {t:TypeId} {x:Operand} {f:Nat}:wpD E id T hs (.field t x f) K=ok (ti E.P t) fun i=>ok (fieldOf i f) fun fd=>ok (ti E.P fd.type) fun fi=>ok (evalO T x) fun v=>ok v.agg? fun cs=>ok (partL fi cs fd.offset) fun v=>K v hs ([],[]):=by
  rw[wd_0 rfl rfl rfl];show ok (fieldJ E.P T lf t x f) _=_;simp only[fieldJ,ok_ob,ok_some]
@[simp ↓] theorem wd_indexAddr {t:TypeId} {x ix:Operand}:wpD E id T hs (.indexAddr t x ix) K=ok (ti E.P t) fun i=>ok (elemOf i.desc) fun el=>ok (ti E.P el.1) fun e=>ok (evalO T x) fun v=>ok (evalO T ix) fun n=>ok n.nat? fun n=>ok (idxV el.2 e n v) fun r=>K r hs ([],[]):=by
  rw[wd_0 rfl rfl rfl];show ok (indexAddrJ E.P T lf t x ix) _=_;simp only[indexAddrJ,ok_ob,ok_some]
@[simp ↓] theorem wd_index {t:TypeId} {x ix:Operand}:wpD E id T hs (.index t x ix) K=ok (ti E.P t) fun i=>isStr i.desc=true∧ok (evalO T x) fun v=>ok v.str? fun s=>ok (evalO T ix) fun n=>ok n.nat? fun n=>ok (nthL s n) fun b=>K (.int .u8 (Int.ofNat b)) hs ([],[]):=by
  rw[wd_0 rfl rfl rfl];show ok (indexJ E.P T lf t x ix) _=_;simp only[indexJ,ok_ob,ok_gd,ok_some]
@[simp ↓] theorem wd_extract {x:Operand} {k:Nat}:wpD E id T hs (.extract x k) K=ok (evalO T x) fun v=>ok v.tuple? fun vs=>ok (nthL vs k) fun v=>K v hs ([],[]):=by
  rw[wd_0 rfl rfl rfl];show ok (extractJ T lf x k) _=_;simp only[extractJ,ok_ob,ok_some]
@[simp ↓] theorem wd_nilCheck {x:Operand}:wpD E id T hs (.nilCheck x) K=ok (evalO T x) fun v=>notNil v=true∧K v hs ([],[]):=by
  rw[wd_0 rfl rfl rfl];show ok (nilCheckJ T lf x) _=_;simp only[nilCheckJ,ok_ob,ok_gd,ok_some]
@[simp ↓] theorem wd_build {t:TypeId} {ps:Array (Nat×Operand)}:wpD E id T hs (.build t ps) K=ok (ti E.P t) fun i=>ok (bi (isStructD i.desc) (gd (fieldsOk E.P (fieldsOf i.desc)) (buildJ E.P T i ps.toList i.zero)) (ob (arrOf i.desc) fun el=>ob (ti E.P el) fun e=>buildAJ T e.size ps.toList i.zero)) fun cs=>K (.agg cs) hs ([],[]):=by
  rw[wd_0 rfl rfl rfl];show ok (buildOpJ E.P T lf t ps) _=_;unfold buildOpJ;simp only[ok_ob (ti E.P t)];congr 1;funext i;rw[ok_ob];congr 1;funext cs;rw[ok_some]
@[simp ↓] theorem wd_convert {s d:TypeId} {x:Operand}:wpD E id T hs (.convert s d x) K=ok (ti E.P s) fun _=>ok (ti E.P d) fun j=>ok (evalO T x) fun v=>ok (convV j.desc v) fun r=>K r hs ([],[]):=by
  rw[wd_0 rfl rfl rfl];show ok (convJ E.P T lf s d x) _=_;simp only[convJ,ok_ob,ok_some]
@[simp ↓] theorem wd_makeFunc {f:FuncId} {cs:Array Operand}:wpD E id T hs (.makeFunc (.func f) #[] cs) K=ok (evalL T cs.toList) fun l=>K (.func f l) hs ([],[]):=by
  rw[wd_0 rfl rfl rfl];show ok (gd true (ob (evalL T cs.toList) fun l=>some (V.func f l,lf))) _=_
  simp_all
@[simp ↓] theorem wd_load {t:TypeId} {a:Operand}:wpD E id T hs (.load t a) K=ok (ti E.P t) fun i=>ok (evalO T a) fun p=>ok (loadJ i (part hs (objOf p)) p) fun v=>K v hs (objOf p,[]):=by
  show ok (loadOpJ E.P T { H:=pickT hs.H (orc [] objOf (evalO T a)),n:=0,log:=[] } t a) (fun r=>K r.1 hs (orc [] objOf (evalO T a),[]))=_
  simp only[loadOpJ,ok_ob,ok_some]
  cases evalO T a with
  | none =>
    congr 1;funext i
    exact propext ⟨fun ⟨_,h,_⟩=>(by cases h),fun ⟨_,h,_⟩=>(by cases h)⟩
  |some p=>simp only[ok_some,orc_some];rfl
@[simp ↓] theorem wd_lookup {t:TypeId} {m k:Operand} {b:Bool}:wpD E id T hs (.lookup t m k b) K=ok (evalO T m) fun mv=>ok (lookupJ E.P T (part hs (objOf mv)) t m k b) fun r=>K r.1 hs (objOf mv,[]):=by
  show ok (lookupJ E.P T { H:=pickT hs.H (orc [] objOf (evalO T m)),n:=0,log:=[] } t m k b) (fun r=>K r.1 hs (orc [] objOf (evalO T m),[]))=_
  cases h:evalO T m with
  | none =>
    refine propext ⟨fun ⟨r,h1,_⟩=>?_,fun ⟨_,h,_⟩=>(by cases h)⟩
    grind [lookupJ,ob_eq]
  |some p=>simp only[ok_some,orc_some];rfl
@[simp ↓] theorem wd_slice {t:TypeId} {x:Operand} {lo hi mx:Option Operand}:wpD E id T hs (.slice t x lo hi mx) K=ok (ti E.P t) fun i=>ok (evalO T x) fun v=>ok (sliceJ E.P T (part hs (objOf v)) i v lo hi mx) fun r=>K r hs (objOf v,[]):=by
  show ok (sliceOpJ E.P T { H:=pickT hs.H (orc [] objOf (evalO T x)),n:=0,log:=[] } t x lo hi mx) (fun r=>K r.1 hs (orc [] objOf (evalO T x),[]))=_
  simp only[sliceOpJ,ok_ob,ok_some]
  cases evalO T x with
  | none =>
    congr 1;funext i
    exact propext ⟨fun ⟨_,h,_⟩=>(by cases h),fun ⟨_,h,_⟩=>(by cases h)⟩
  |some p=>simp only[ok_some,orc_some];rfl
@[simp ↓] theorem wd_len {a:Operand} {ts:Array TypeId}:wpD E id T hs (.call ⟨.builtin .len,#[a],ts⟩) K=ok (evalO T a) fun v=>ok (lenOpJ E.P (part hs (objOf v)) ts.toList [v]) fun r=>K r.1 hs (objOf v,[]):=by
  show (ok (evalL T [a]) fun vs=>ok (lenOpJ E.P { H:=pickT hs.H (orc [] objOf (evalO T a)),n:=0,log:=[] } ts.toList vs) fun r=>K r.1 hs (orc [] objOf (evalO T a),[]))=_
  simp only[evalL_cons_n,evalL_nil_n,ok_ob,ok_some]
  cases evalO T a with
  |none=>exact propext ⟨fun ⟨_,h,_⟩=>(by cases h),fun ⟨_,h,_⟩=>(by cases h)⟩
  |some p=>simp only[ok_some,orc_some];rfl
@[simp ↓] theorem wd_min {xs:Array Operand} {ts:Array TypeId}:wpD E id T hs (.call ⟨.builtin .min,xs,ts⟩) K=ok (evalL T xs.toList) fun vs=>ok (minmaxJ lf true vs) fun r=>K r.1 hs ([],[]):=(rfl)
@[simp ↓] theorem wd_max {xs:Array Operand} {ts:Array TypeId}:wpD E id T hs (.call ⟨.builtin .max,xs,ts⟩) K=ok (evalL T xs.toList) fun vs=>ok (minmaxJ lf false vs) fun r=>K r.1 hs ([],[]):=(rfl)
theorem put_self{k:Nat}{o:Obj}:(hs.put k o).H.get k=some o:=by rw[put_get,if_pos rfl]
@[simp ↓] theorem wd_alloc {t:TypeId}:wpD E id T hs (.alloc t) K=(hs.H.get id=none∧ok (ti E.P t) fun i=>Nat.beq (lenL i.zero) i.size=true∧K (.ptr id 0 0) (hs.put id (.arr i.size 0 [i.zero] true false false)) ([id],[])):=by
  show (_∧ok (allocJ E.P lf id t) fun r=>ok (r.2.H.get id) fun o'=>o'.fz=false∧K r.1 (hs.put id o') ([id],[]))=_
  simp[allocJ,ok_ob,ok_gd,ok_some,put_self,Obj.fz]
@[simp ↓] theorem wd_box {t:TypeId} {x:Operand}:wpD E id T hs (.box t x) K=(hs.H.get id=none∧ok (evalO T x) fun v=>K (.ptr id 0 0) (hs.put id (.arr (lenL v.cells) 0 [v.cells] true false false)) ([id],[])):=by
  show (_∧ok (boxJ T lf id x) fun r=>ok (r.2.H.get id) fun o'=>o'.fz=false∧K r.1 (hs.put id o') ([id],[]))=_
  simp[boxJ,ok_ob,ok_some,put_self,Obj.fz]
@[simp ↓] theorem wd_buildSlice {t:TypeId} {n:Nat} {ps:Array (Nat×Operand)}:wpD E id T hs (.buildSlice t n ps) K=(hs.H.get id=none∧ok (buildSliceOpJ E.P true T lf id t n ps) fun r=>ok (r.2.H.get id) fun o'=>o'.fz=false∧K r.1 (hs.put id o') ([id],[])):=(rfl)
@[simp ↓] theorem wd_makeSlice {t:TypeId} {l c:Operand}:wpD E id T hs (.makeSlice t l c) K=(hs.H.get id=none∧ok (makeSliceOpJ E.P T lf id t l c) fun r=>ok (r.2.H.get id) fun o'=>o'.fz=false∧K r.1 (hs.put id o') ([id],[])):=(rfl)
@[simp ↓] theorem wd_makeMap {t:TypeId}:wpD E id T hs (.makeMap t none) K=(hs.H.get id=none∧K (.map id) (hs.put id (.mp [])) ([id],[])):=by
  show (_∧ok (gd true (some (V.map id,lf.put id (.mp [])))) fun r=>ok (r.2.H.get id) fun o'=>o'.fz=false∧K r.1 (hs.put id o') ([id],[]))=_
  simp[gd_true,ok_some,put_self,Obj.fz]
@[simp] theorem putX_nil {H H2:PT Obj}:putX H H2 []=H:=(rfl)
@[simp] theorem putX_cons {H H2:PT Obj} {k:Nat} {X:List Nat}:putX H H2 (k::X)=orc (putX H H2 X) (fun o=>(putX H H2 X).set k o) (H2.get k):=(rfl)
@[simp] theorem idsL_nil:idsL []=[]:=(rfl)
@[simp] theorem idsL_cons {c:V} {l:List V}:idsL (c::l)=objOf c++idsL l:=by show appL (objOf c) (idsL l)=_;rw[appL_eq]
@[simp] theorem objOf_int {k:IntKind} {n:Int}:objOf (.int k n)=[]:=(rfl)
@[simp] theorem objOf_bool {b:Bool}:objOf (.bool b)=[]:=(rfl)
@[simp] theorem objOf_str {b:List Nat}:objOf (.str b)=[]:=(rfl)
@[simp] theorem objOf_sl {b:List (List V)} {t:Bool}:objOf (.sl b t)=[]:=(rfl)
@[simp] theorem objOf_snil:objOf .snil=[]:=(rfl)
@[simp] theorem objOf_nilptr:objOf .nilptr=[]:=(rfl)
@[simp] theorem objOf_nilFunc:objOf .nilFunc=[]:=(rfl)
@[simp] theorem objOf_nilmap:objOf .nilmap=[]:=(rfl)
@[simp] theorem objOf_func {f:FuncId} {l:List V}:objOf (.func f l)=[]:=(rfl)
@[simp] theorem rowP_ptr {i g o:Nat}:rowP hs (.ptr i g o)=isRow hs i:=(rfl)
def seesS(hs:HS)(p v:V):List Nat:=objOf p++bi (rowP hs p) (idsL v.cells) []
@[simp] theorem seesS_n {p v:V}:seesS hs p v=objOf p++bi (rowP hs p) (idsL v.cells) []:=(rfl)
@[simp ↓] theorem wd_store {t:TypeId} {a x:Operand}:wpD E id T hs (.store t a x) K=(hs.H.get id=none∧ok (ti E.P t) fun i=>ok (evalO T a) fun p=>ok (evalO T x) fun v=>ok (storeJ i (part hs (seesS hs p v)) p v) fun h2 =>
 K undefV { H:=putX hs.H h2.H (seesS hs p v),n:=hs.n,log:=h2.log++hs.log } (seesS hs p v,h2.log)):=by
  show (_∧ok (storeOpJ E.P T { H:=pickT hs.H (orc [] (fun p=>appL (objOf p) (bi (rowP hs p) (orc [] (fun v=>idsL v.cells) (evalO T x)) [])) (evalO T a)),n:=0,log:=[] } t a x) fun r=>K r.1 { H:=putX hs.H r.2.H (orc [] (fun p=>appL (objOf p) (bi (rowP hs p) (orc [] (fun v=>idsL v.cells) (evalO T x)) [])) (evalO T a)),n:=hs.n,log:=appL r.2.log hs.log } (orc [] (fun p=>appL (objOf p) (bi (rowP hs p) (orc [] (fun v=>idsL v.cells) (evalO T x)) [])) (evalO T a),r.2.log))=_
  simp only[storeOpJ,ok_ob,ok_some,appL_eq]
  cases evalO T a with
  |none=>congr 1;exact propext ⟨fun ⟨_,_,_,h,_⟩=>(by cases h),fun ⟨_,_,_,h,_⟩=>(by cases h)⟩
  | some p =>
    cases evalO T x with
    |none=>congr 1;exact propext ⟨fun ⟨_,_,_,_,_,h,_⟩=>(by cases h),fun ⟨_,_,_,_,_,h,_⟩=>(by cases h)⟩
    |some v=>simp only[ok_some,orc_some];rfl
@[simp ↓] theorem wd_mapUpdate {t:TypeId} {m k x:Operand}:wpD E id T hs (.mapUpdate t m k x) K=(hs.H.get id=none∧ok (mapUpdateJ E.P T (bare hs) t m k x) fun r=>K r.1 { H:=r.2.H,n:=r.2.n,log:=r.2.log++hs.log } ([],r.2.log)):=by
  show (_∧ok (mapUpdateJ E.P T (bare hs) t m k x) fun r=>K r.1 { H:=r.2.H,n:=r.2.n,log:=appL r.2.log hs.log } ([],r.2.log))=_
  simp_all
@[simp ↓] theorem wd_call {x:Operand} {xs:Array Operand} {ts:Array TypeId}:wpD E id T hs (.call ⟨.value x,xs,ts⟩) K=(hs.H.get id=none∧ok (evalO T x) fun v=>ok (funcOf v) fun p=>ok (evalL T xs.toList) fun vs=>ok (E.con p.1 (appL vs p.2) (bare hs)) fun r=>K r.1 { H:=r.2.H,n:=r.2.n,log:=r.2.log++hs.log } ([],r.2.log)):=by
  show (_∧ok (evalO T x) fun v=>ok (funcOf v) fun p=>ok (evalL T xs.toList) fun vs=>ok (E.con p.1 (appL vs p.2) (bare hs)) fun r=>K r.1 { H:=r.2.H,n:=r.2.n,log:=appL r.2.log hs.log } ([],r.2.log))=_
  simp_all
@[simp ↓] theorem wd_append {xs:Array Operand} {ts:Array TypeId}:wpD E id T hs (.call ⟨.builtin .append,xs,ts⟩) K=(hs.H.get id=none∧ok (evalL T xs.toList) fun vs=>ok (appendOpJ E.P (bare hs) id ts.toList vs) fun r=>K r.1 { H:=r.2.H,n:=r.2.n,log:=r.2.log++hs.log } ([],r.2.log)):=by
  show (_∧ok (evalL T xs.toList) fun vs=>ok (appendOpJ E.P (bare hs) id ts.toList vs) fun r=>K r.1 { H:=r.2.H,n:=r.2.n,log:=appL r.2.log hs.log } ([],r.2.log))=_
  simp_all
@[simp ↓] theorem wd_copy {xs:Array Operand} {ts:Array TypeId}:wpD E id T hs (.call ⟨.builtin .copy,xs,ts⟩) K=(hs.H.get id=none∧ok (evalL T xs.toList) fun vs=>ok (copyOpJ E.P (bare hs) ts.toList vs) fun r=>K r.1 { H:=r.2.H,n:=r.2.n,log:=r.2.log++hs.log } ([],r.2.log)):=by
  show (_∧ok (evalL T xs.toList) fun vs=>ok (copyOpJ E.P (bare hs) ts.toList vs) fun r=>K r.1 { H:=r.2.H,n:=r.2.n,log:=appL r.2.log hs.log } ([],r.2.log))=_
  simp_all
@[simp] theorem objOf_ptr {i g o:Nat}:objOf (.ptr i g o)=[i]:=(rfl)
@[simp] theorem objOf_own {i g o n:Nat} {c:Option Nat}:objOf (.own i g o n c)=[i]:=(rfl)
@[simp] theorem objOf_map {i:Nat}:objOf (.map i)=[i]:=(rfl)
@[simp] theorem objOf_ref {c:List V}:objOf (.ref c)=[]:=(rfl)
@[simp] theorem allClash_nil {all:List (List Nat×List Nat)} {j:Nat} {bs:List Nat}:allClash all [] j bs=true:=(rfl)
@[simp] theorem allClash_cons {all l:List (List Nat×List Nat)} {r:List Nat×List Nat} {j m:Nat} {bs:List Nat}:allClash all (r::l) j (m::bs)=et (clashJ m r all 0 j) (allClash all l (j+1) bs):=(rfl)
@[simp] theorem clashJ_nil {m i j:Nat} {r:List Nat×List Nat}:clashJ m r [] i j=true:=(rfl)
@[simp] theorem clashJ_cons {m i j:Nat} {r q:List Nat×List Nat} {l:List (List Nat×List Nat)}:clashJ m r (q::l) i j=if i<j then ((tb m i||!(meet q.1 r.2||meet r.1 q.2))&&clashJ m r l (i+1) j)else true:=by
  show bi (Nat.blt i j) (et (bi (tb m i) true (nt (bi (meet q.1 r.2) true (meet r.1 q.2)))) (clashJ m r l (i+1) j)) true=_
  simp[bi_eq,blt_true,et_eq,nt_eq,tb,meet]
@[simp] theorem meet_nil {m:List Nat}:meet [] m=false:=(rfl)
@[simp] theorem meet_nil_r {l:List Nat}:meet l []=false:=by
  induction l with
  |nil=>rfl
  |cons x l ih=>show bi (memL x []) true (meet l [])=false;rw[ih];rfl
@[simp] theorem meet_one {x y:Nat}:meet [x] [y]=decide (x=y):=by
  show bi (bi (Nat.beq x y) true false) true false=_
  simp_all
@[simp] theorem tb_lit {m i:Nat}:tb m i=decide (m / 2 ^ i % 2=1):=by unfold tb;rw[beq_dec]
end
end Go.J
