import Derived.Test.YtfloillkpbhhhaaGreatJK4
import Derived.Below
import Derived.ChangeArms
set_option linter.all false
noncomputable section
namespace Go.J
variable {K:Act->World->Prop}{a:Addr}{cP:Array Bool}{ps:Array Tmp}{tm:Array Value}{dr t:Bool}{b c:Code}{Rp:Ending->World->Prop}{E:Env}{ev:Ev}{Q:Exit->Act->World->Prop}{f:FuncId}{C eM:HS}{N i n r:Nat}{μ μ0:Nat->Nat->Y MI}{F F0 X:Nat->Prop}{o:Oper}{g q:Operand}{P:Program}{α:Type}{x:Value}{w0:World}{ds:Y (Z Deferred)}{pd:Y Code}{d:Y Tmp}{bs:Z Nat}{l:Z Oper}{S:Z TypeId}
section
variable {I:Nat->Value}{sz:Nat}{ops:Array Oper}{wZ:Nat}{Ts:Nat->PT V}{b9:Nat->HS}{vs:Nat->V}{rs ws:Nat->Z Nat}{B:Nat->Nat->Prop}{N:NB}
    {G0:Nat->Y Obj} {zj:Nat}
theorem zpq(tr:Tr E ev sz ops.toList wZ Ts b9 vs rs ws B)(b8:cP.size=ops.size)(h:Region.ready .any ops cP=[]):∀ j,j<ops.toList.length->cP.getD j false=true:=by
 intro j
 induction j using Nat.strongRecOn with
 | _ j ih =>
   intro hj;refine aV λcb=>?_
   have ho:ops.toList[j]?=some ops.toList[j]:=ax hj;have cC:j<cP.size:=by rw[b8];simpa using hj
   have hf:cP.getD j true=false:=by
    grind
   have hm:j∈Region.ready .any ops cP:=by
    refine mem_ready.2 ⟨hf,ops.toList[j],by rw[<- gy];exact ho,λe he hb=>?_⟩;have:=tr.on j _ ho e (by simpa using he) hb
    grind
   grind
theorem any_ok (hρ:Good I) (aq:bH I E) (cE:RU I E ev) (tr:Tr E ev sz ops.toList wZ Ts b9 vs rs ws B) (hX:∀ i,wZ<=i->¬ X i) (hn:wZ+ops.toList.length<=(b9 0).n) (hO:pj X (b9 ops.toList.length)) (b8:sz<=zj)
 {r:Y Nat}  (hQ:∀ a' w' F' μ',R I w' F' μ' E.P (b9 ops.toList.length)->kH I w' F' μ' (Ts ops.toList.length) a'.tmps->a'.tmps.size=zj->Marks N w' a'.defers ->
   A1 w0 F0 μ0 G0 w' F' μ' (b9 ops.toList.length).H.get->Q .normal a' w'):∀ (fuel:Nat) (cP:Array Bool) (a:Act) (w:World),cP.size=ops.size->cP.toList.count false<=fuel ->
   (∃ F μ,Inv I E ops Ts b9 B X N w0 F0 μ0 G0 zj (λi=>cP.getD i false=true) a w F μ)->wpAnyIn (Wr r) 0 E.P .any ops Q fuel cP a w:=by
 have cH:∀ (cP:Array Bool) (a:Act) (w:World),cP.size=ops.size->(∃ F μ,Inv I E ops Ts b9 B X N w0 F0 μ0 G0 zj (λi=>cP.getD i false=true) a w F μ) ->
  Region.ready .any ops cP=[]->Q .normal a w:=by
  rintro cP a w hl ⟨F,μ,inv⟩ hr;have b6:=zpq tr hl hr;have rg:=inv.rg;have fr:=inv.fr
  have e:Gk b9 (λi=>cP.getD i false=true) ops.toList.length=(b9 ops.toList.length).H.get:=by
   grind [id,zhX]
  rw[e]at rg fr;refine hQ a w F μ (rg.toR λid o h=>.inr h) (λt v hv=>?_) inv.size inv.marks fr;refine inv.tmp t ops.toList.length v (af _) (λi o hi _ _=>b6 i hi) (λi o hi ho _ _=>?_) hv
  grind
 intro fuel
 induction fuel with
 | zero =>
   intro cP a w hl hc hinv
   have fy:Region.ready .any ops cP=[]:=by
    refine List.eq_nil_iff_forall_not_mem.2 λi hi=>?_
    obtain⟨M,_⟩:=mem_ready.1 hi;have cC:i<cP.size:=jK λh=>by simp[h]at M
    have hm:false∈cP.toList:=by
     have O:cP[i]=false:=by simpa [cC]using M
     grind
    grind
   exact⟨fy,cH cP a w hl hinv fy⟩
 | succ fuel ih =>
   rintro cP a w hl hc ⟨F,μ,inv⟩;refine⟨λhr=>cH cP a w hl ⟨F,μ,inv⟩ hr,λj hj=>?_⟩;obtain⟨M,o,ho,b6⟩:=mem_ready.1 hj;have cC:j<cP.size:=jK λh=>by simp[h]at M
   have zxs:cP.getD j false=false:=by simpa [cC]using M
   have h1:ops.toList[j]?=some o:=by simpa using ho
   have BE:j<ops.toList.length:=(aM.1 h1).1;refine inv.step hρ aq cE tr hX hn hO b8 BE (by rw[zxs];simp) (λi hb=>?_) ?_
   . obtain⟨e,he,hbe,h⟩:=tr.zOo j i o h1 hb;have O:=b6 e (by simpa using he) hbe;rcases h with rfl|h
     . exact O
     . exact inv.down i e.on O h
   . intro a' w' F' μ' zJu
     have eS:(λi=>cP.getD i false=true\/i=j)=λi=>(cP.setIfInBounds j true).getD i false=true:=by
      funext i
      by_cases e:i=j
      . simp_all
      . rw[getD_set_ne false (Ne.symm e)];simp[e]
     refine ih _ a' w' (by simpa using hl) ?_ ⟨F',μ',eS ▸ zJu⟩
     have h3:cP.toList[j]?=some false:=by
      simp_all
     grind
def zsV(hρ:Good I)(aq:bH I E)(cE:RU I E ev)(hP:E.P.follows .mixedOrders=true){r:Y Nat}{T T':PT V}{a8:HS}{w:World}{a:Act}{id:Nat}
 (h:QI E ev sz ops.toList T C=some (T',a8)) (hR:R I w F μ E.P C) (hD:Ol X μ C) (hO:pj X a8) (hT:kH I w F μ T a.tmps) (b8:sz<=a.tmps.size) (hM:Marks N w a.defers)
 (hQ:∀ a' w' F' μ',R I w' F' μ' E.P a8->kH I w' F' μ' T' a'.tmps->a'.tmps.size=a.tmps.size->Marks N w' a'.defers->Fr w F μ C w' F' μ' a8->Q .normal a' w'):(Code.region id ops true).wpIn (Wr r) 0 E.P Q a w:=by
 obtain⟨Ts,b9,vs,rs,ws,B,tr,e1,e2,e3,e4⟩:=zct h;refine wpIn_region_any hP ?_;have F5:R I { w with drawn:=w.drawn+1 } F μ E.P C:=hR.grow (af _) (λ_ _=>rfl)
 have BY:A1 w F μ C.H.get { w with drawn:=w.drawn+1 } F μ C.H.get :=
  ⟨⟨rfl,rfl,rfl⟩,af _,λ_ _ _=>rfl,λ_ h=>h,λ_ h=>.inl h,λ_ _ _ h=>h,λ_ h=>.inl h,λ_ h=>h,λ_ _ _=>rfl,λ_ _ h=>h,λid g m h=>.inr ⟨id,g,m,h,rfl⟩⟩
 have eC:Gk b9 (λi=>(Array.replicate ops.size false).getD i false=true) ops.toList.length=C.H.get:=by
  have:(λi=>(Array.replicate ops.size false).getD i false=true)=λ_=>False:=by
   funext i
   by_cases h:i<ops.size<;>simp[h]
  rw[this]
  funext id
  rw[Eu (j:=0) (aW _) λ_ _ _ _ h=>h];show (b9 0).H.get id=_;rw[e2]
 have Fo:∀ i,¬ (Array.replicate ops.size false).getD i false=true:=by
  intro i;by_cases h:i<ops.size<;>simp[h]
 refine any_ok (N:=N) (w0:=w) (F0:=F) (μ0:=μ) (G0:=C.H.get) (zj:=a.tmps.size) hρ aq cE tr hD.2 (by rw[e2];exact af _) (by rw[e4];exact hO) b8 ?_ ops.size _ a _ (by simp) (by simp) ⟨F,μ,?_⟩
 . intro a' w' F' μ' g1 g2 g3 g4 g5;rw[e4]at g1 g5;rw[e3]at g2;exact hQ a' w' F' μ' g1 g2 g3 g4 g5.zIy
 . refine⟨λi k hk=>absurd hk (Fo k),by rw[eC];exact F5.zMS,by rw[eC];exact BY,λid g hg=>by rw[eC];exact hD.1 id g hg,?_,rfl,hM⟩;intro t k v hk M O hv;have eM:=tr.zaD (m:=0) (k:=k) (aW _) hk (t:=t) (λi o _ hi ho hd=>absurd (M i o hi ho hd) (Fo i));rw[eM,e1]at hv;obtain⟨x,hx,hr⟩:=hT t v hv;exact⟨x,hx,hr.mono I (λ_ h=>h) (λ_ _=>rfl) (λ_ _ _ h=>h)⟩
end
section
variable {I:Nat->Value}{T T':PT V}{a8:HS}
theorem zbc{rd:Bool}{sz:Nat}{q:Ex×PT V×HS}{ex:Ex}(h:Ki ev rd sz b q=some (ex,T',a8)) :
 (q.1=.normal/\ev.code rd sz b q.2.1 q.2.2=some (ex,T',a8))\/(q.1≠.normal/\q=(ex,T',a8)):=by
 unfold Ki at h
 grind
theorem zgo{e:Ex}{a:Act}{w:World}(cb:e≠.normal)(h:Q (zoB e) a w):Exit.then K Q (zoB e) a w:=by
 cases e with
 |normal=>exact absurd rfl cb
 |ret=>exact h
 |exit id=>exact h
def ze9 {w:World}     (hR:R I w F μ P C) (hD:Ol X μ C) (rE:C.H.get C.n=none) {sz:Nat} {tmps:Array Value} (hT:kH I w F μ T tmps) (b8:sz<=tmps.size)
 (fn:FuncId) (ps:Array Tmp) (assign body:Code):∃ l w1 μ',(Instr.enterLoop fn tmps ps assign body none).run P w=.ok (l,[{ target:=.collected w.heap.size,args:=#[] }]) w1 /\
   R I w1 F μ' P (HS.put { H:=C.H,n:=C.n+1,log:=C.log } C.n (.lp sz T ps.toList assign body 0))/\Fr w F μ C w1 F μ' (HS.put { H:=C.H,n:=C.n+1,log:=C.log } C.n (.lp sz T ps.toList assign body 0)) /\
   (∃ m,μ' C.n 0=some m/\m.b=l)/\w1.heap[w.heap.size]?=some (.deferred (some [])):=by
 let L:Loop:={ state:=.ready,pending:=none,fn:=fn,tmps:=tmps,params:=ps,assign:=assign,body:=body,defers:=w.heap.size }
 let w1:World:=qL w (.deferred (some []))
 let w2:World:=qL w1 (.loop L)
 have db:(Instr.enterLoop fn tmps ps assign body none).run P w=.ok (w1.heap.size,[{ target:=.collected w.heap.size,args:=#[] }]) w2:=by
  simp[Instr.enterLoop];exact⟨(nQ ..).symm,rfl⟩
 have cm:w1.heap.size=w.heap.size+1:=nQ ..;have dt:w2.heap.size=w1.heap.size+1:=nQ ..
 have hold:∀ b,b<w.heap.size->w2.heap[b]?=w.heap[b]?:=λb hb=>by
  rw[qp w1 _ (by omega),qp w _ hb]
 let m:MI:={ b:=w1.heap.size,size:=0,total:=0 }
 obtain⟨k1,k2⟩:=hR.alloc (w':=w2) (a8:=HS.put { H:=C.H,n:=C.n+1,log:=C.log } C.n (.lp sz T ps.toList assign body 0)) rE (hD.free (hD.2 _ (af _)) rE).2 (o:=.lp sz T ps.toList assign body 0) rfl rfl (m:=m)
  (show w.heap.size<=w1.heap.size by omega) (show w1.heap.size<w2.heap.size by omega) hold (λk=>ma ..) (by
    intro m' eR;have e:m'=m:=by rw[cX]at eR;exact(bS eR).symm
    subst e;refine⟨⟨L,uI ..,⟨rfl,rfl⟩,rfl,rfl,rfl,λt v hv=>?_,b8⟩,λhF=>?_⟩
    . obtain⟨x,hx,hr⟩:=hT t v hv;refine⟨x,hx,hr.mono I (λ_ h=>h) (λb hb=>hold b (hR.Bj b hb)) (λi g m' hm=>?_)⟩;rw[kr];exact hm;rintro ⟨rfl,rfl⟩;rw[(hD.free (hD.2 _ (af _)) rE).2]at hm;cases hm
    . have:=hR.Bj _ hF;have e:m.b=w1.heap.size:=rfl
      omega)
 exact⟨_,w2,_,db,k1,k2,⟨m,cX ..,rfl⟩,by rw[qp w1 _ (by omega)];exact uI ..⟩
def vx{w:World}{l:Nat}{r:Loop}(h:w.heap[l]?=some (.loop r))(C:r.state=.ready\/r.state=.done)(hp:r.pending=pd) :
 (Instr.endLoop l).run P w=.ok pd { w with heap:=w.heap.setIfInBounds l (.loop { r with state:=.exhausted,pending:=pd }) }:=by
 subst hp;rcases C with C|C<;>simp[Instr.endLoop,gC h,CU h (λ_ _ _ h=>by cases h),C]
def zrH:Ex->Y Code
 |.normal=>none
 |.ret=>some .ret
 |.exit i=>some (.exit i)
def zen{st:Nat}{ex:Ex}{l:Loop}(h:zC7 st=some ex)(hl:zK9 st l):(l.state=.ready\/l.state=.done)/\l.pending=zrH ex:=by
 match st,h,hl with
 | 0,h,hl=>cases h;exact⟨.inl hl.1,hl.2⟩
 | 1,h,_=>cases h
 | 2,h,hl=>cases h;exact⟨.inr hl.1,hl.2⟩
 |i+3,h,hl=>cases h;exact⟨.inr hl.1,hl.2⟩
theorem zi5 (cE:RU I E ev) {sz:Nat}   {assign body:Code} {ex:Ex} (h:(W (bV T g) λv=>Gf ev sz ps assign body T C v)=some (ex,T',a8)) :
 zga I E.P false sz (.rangeFunc g ps assign body) T C ex T' a8:=by
 intro N X r w F μ a Q hr hR hD hO hT b8 hM hQ;obtain rfl:=hr.1 rfl;have HI:=hr.2;simp only[aA]at h;obtain⟨v,hv,h⟩:=h;simp only[Gf,aA,bE,aJ,Fk]at h;obtain⟨gf,hgf,rE,⟨v1,cm⟩,hq,o,ho,l,rfl,Rx,hb,h⟩:=h;cases h;dsimp only at ho hO hQ;have BW:=dJ (a:=a) hT hv;have hfn:=cE.body hq;obtain⟨f,Bt⟩:=gf;dsimp only at hq hfn
 have zOk:v=.func f Bt:=by
  unfold funcOf at hgf
  grind
 subst zOk;obtain⟨ys,hy,hys,oY⟩:=BW.AP;refine wpIn_rangeFunc λfn _=>?_
 obtain⟨lp,w1,μ1,db,F5,rN,⟨m,hm,rfl⟩,Ys⟩:=ze9 hR hD rE hT b8 fn ps assign body;refine⟨m.b,_,w1,{ target:=.fn (.func f) ys,args:=#[.func (.yield m.b) #[] #[]] },w1,f,#[.func (.yield m.b) #[] #[]]++ys,w1,db,?_,λ_ _=>trivial,?_,(λh=>by cases h),?_⟩
 . simp[resolve,rangeCall,hy,Deferred.ofValue,show ∀ v,a.eval (.const v)=v fromλ_=>rfl]
 . simp[invoke,MV hfn]
 . have rK:Kept C (HS.put { H:=C.H,n:=C.n+1,log:=C.log } C.n (.lp sz T ps.toList assign body 0)):=by
    have:=xX (C:={ H:=C.H,n:=C.n+1,log:=C.log }) (.lp sz T ps.toList assign body 0) rE;exact⟨this.log,this.obj,mF _,this.hm⟩
   have Nw:pj X cm:=(oM ..).off hO
   have hA:Mq I w1 F μ1 (.ly C.n::Bt) (#[.func (.yield m.b) #[] #[]]++ys):=by
    refine⟨by simp[hys];omega,λi u hi=>?_⟩
    cases i with
    |zero=>cases hi;exact⟨_,by rw[mH (by simp)];rfl,.ly _ m hm⟩
    | succ i =>
      have cj:Bt[i]?=some u:=by simpa using hi
      have cC:i<ys.size:=by
       grind
      have O:=rN.rep hR (oY i u cj);rw[bR,fe cC]at O
      grind
   refine Vh ((cE.call hq X w1 F μ1 _ F5 (rN.cr rK.le hD) Nw hA).mono λe w3 he=>?_)
   cases e with
   |panicked c=>exact he.elim
   |outgrown=>exact he.elim
   | returned y =>
     obtain⟨F3,μ3,P1,_,Pd⟩:=he;have CI:=Pd.mm _ _ _ hm;obtain⟨⟨lw,g0,g1,_⟩,_⟩:=P1.obj _ _ ho m CI;obtain⟨g2,g3⟩:=zen hb g1;obtain⟨P3,My⟩:=De P1 CI (b':=1) ho g0 (st:=.exhausted) (pd:=zrH ex) trivial;have BY:=(rN.trans Pd).trans My;refine⟨zrH ex,_,vx g0 g2 g3,?_⟩
     suffices cH:Q (zoB ex) { a with defers:=[{ target:=.collected w.heap.size,args:=#[] }]++a.defers } { w3 with heap:=w3.heap.setIfInBounds m.b (.loop { lw with state:=.exhausted,pending:=zrH ex }) } by
      cases ex with
      |normal=>exact cH
      |ret=>exact wpIn_ret cH
      |exit i=>exact wpIn_exit cH
     refine hQ _ _ F3 μ3 P3 (BY.zlX hR hT) rfl ?_ BY;obtain⟨hN,rs,⟨r1,_⟩,r2,r3⟩:=hM;have zJ6:=Pd.trans My;have hlt1:w.heap.size<w1.heap.size:=(dX.1 Ys).1;refine⟨aO hN BY.size,w.heap.size::rs,⟨?_,λh=>by rw[HI]at h;cases h⟩,?_,?_⟩
     . grind
     . simp[r2]
     . intro r hr;rcases aB.1 hr with rfl|hr
       . refine⟨hN,?_⟩;rw[zJ6.bw _ hlt1 (F5.deferred Ys)];exact Ys
       . refine⟨(r3 r hr).1,?_⟩;have h4:=(r3 r hr).2;rw[BY.bw r (dX.1 h4).1 (hR.deferred h4)];exact h4
end
section
variable {I:Nat->Value}{w w':World}{a8:HS}{T T':PT V}
def qR(w:World)(r:Nat):World:={ w with heap:=w.heap.setIfInBounds r (.deferred none) }
def F7(h:w.heap[r]?=some (.deferred ds))(b o:Nat):(qR w r).cell? ⟨b,o,none⟩=w.cell? ⟨b,o,none⟩:=by
 have cC:=(dX.1 h).1;by_cases e:b=r
 . subst e;have e2:(qR w b).heap[b]?=some (.deferred none):=by simp[qR,cC]
   simp only[World.cell?,e2,h]
 . simp[World.cell?,qR,Ne.symm e]
theorem pG{b:Nat}(h:b≠r):(qR w r).heap[b]?=w.heap[b]?:=by
 grind [qR]
def fG.cells{v:V}(h:fG I w F v x)(hw:∀ b o,w'.cell? ⟨b,o,none⟩=w.cell? ⟨b,o,none⟩):fG I w' F v x:=by
 induction h with
 |bool b=>exact .bool b
 |int k n=>exact .int k n
 |str s=>exact .str s
 |c9=>exact .c9
 |aE=>exact .aE
 |dj=>exact .dj
 |nilFunc=>exact .nilFunc
 |nilIface=>exact .nilIface
 |sym k=>exact .sym k
 |func f=>exact .func f
 |iface t v y _ ih=>exact .iface t v y ih
 |ref cs b off ys hb hc _ ih=>exact .ref cs b off ys hb (λi v hi=>by rw[hw];exact hc i v hi) ih
 |po a c t h=>exact .po a c t h
 |qe es b off size c t ys hb hl hc _ M O ih=>exact .qe es b off size c t ys hb hl (λi e j v hi hj=>by rw[hw];exact hc i e j v hi hj) ih M O
 |agg cs ys C _ ih=>exact .agg cs ys C ih
 |tuple cs ys C _ ih=>exact .tuple cs ys C ih
def dV.cells{v:V}(h:dV I w F μ v x)(hw:∀ b o,w'.cell? ⟨b,o,none⟩=w.cell? ⟨b,o,none⟩):dV I w' F μ v x:=by
 induction h with
 |pure hp=>exact .pure (hp.cells hw)
 |ptr id g off m hm=>exact .ptr id g off m hm
 |own id g off len cap c m hm M O h3 h4=>exact .own id g off len cap c m hm M O h3 h4
 |map id m hm=>exact .map id m hm
 |ly id m hm=>exact .ly id m hm
 |func f cs ys C _ ih=>exact .func f cs ys C ih
 |iface t v y _ ih=>exact .iface t v y ih
 |agg cs ys C _ ih=>exact .agg cs ys C ih
 |tuple cs ys C _ ih=>exact .tuple cs ys C ih
def R.zlU(hR:R I w F μ P C)(h:w.heap[r]?=some (.deferred ds)):R I (qR w r) F μ P C:=by
 have hc:=F7 h;have b8:(qR w r).heap.size=w.heap.size:=by simp[qR]
 refine⟨λid g m hm=>by rw[b8];exact hR.lt id g m hm,λb hb=>by rw[b8];exact hR.Bj b hb,λid o ho=>?_,hR.inj,hR.y7,λv hv=>⟨(hR.gl v hv).1,(hc v 0).trans (hR.gl v hv).2⟩⟩;have HV:=hR.obj id o ho
 cases o with
 | arr size gen es exact fz row =>
   intro m hm;obtain⟨M,O,⟨cells,el,eb,ht,hl,he,b6⟩,h4,h5⟩:=HV m hm;have cb:m.b≠r:=λe=>by rw[e,h]at eb;cases eb
   refine⟨M,O,⟨cells,el,(pG cb).trans eb,ht,hl,he,λk e j v hk hj=>?_⟩,h4,h5⟩;obtain⟨y,hy,hr,hp⟩:=b6 k e j v hk hj;exact⟨y,hy,hr.cells hc,λhr=>(hp hr).cells hc⟩
 | mp es =>
   intro m hm;obtain⟨⟨en,clock,he,C,b6⟩,h5⟩:=HV m hm;have cb:m.b≠r:=λe=>by rw[e,h]at he;cases he
   refine⟨⟨en,clock,(pG cb).trans he,C,λi k v hi=>?_⟩,h5⟩;obtain⟨e,M,O,h3⟩:=b6 i k v hi;exact⟨e,M,O.cells hc,h3.cells hc⟩
 | lp fn T ps assign body busy =>
   intro m hm;obtain⟨⟨l,hl,M,h4,h5,h6,h7,h8⟩,Ft⟩:=HV m hm;have cb:m.b≠r:=λe=>by rw[e,h]at hl;cases hl
   refine⟨⟨l,(pG cb).trans hl,M,h4,h5,h6,λt v hv=>?_,h8⟩,Ft⟩;obtain⟨x,hx,hr⟩:=h7 t v hv;exact⟨x,hx,hr.cells hc⟩
def im(h:w.heap[r]?=some (.deferred (some []))):(Instr.takeDeferred r).run P w=.ok [] (qR w r):=by
 simp[Instr.takeDeferred,CV h (λ_ _ _ h=>by cases h),CU h (λ_ _ _ h=>by cases h),qR]
theorem zjB{fn:Func}(hN:w0.heap.size<=N)
 (cH:∀ w,R I w F μ P C->kH I w F μ T tm->Fr w0 F0 μ0 eM w F μ C->∃ v,(results fn tm).run P w=.ok v w/\Rp (.returned v) w):∀ (rs:Z Nat) (w:World),R I w F μ P C->kH I w F μ T tm->Fr w0 F0 μ0 eM w F μ C->rs.Nodup ->
 (∀ r∈rs,N<=r/\w.heap[r]?=some (.deferred (some [])))->LeavesInM (Wr none) 0 P fn tm Rp (rs.map (λr=>{ target:=.collected r,args:=#[] })) .returning w:=by
 intro rs
 induction rs with
 |nil=>intro w hR hT hf _ _;exact cH w hR hT hf
 | cons r rs ih =>
   intro w hR hT hf eN b6;have hr:=b6 r (aD ..);refine⟨by simp,.inl ⟨r,qR w r,rfl,im hr.2,?_⟩⟩;have sL:=iH.1 eN;refine ih _ (hR.zlU hr.2) (λt v hv=>?_) ?_ sL.2 (λs C=>⟨(b6 s (aF _ C)).1,?_⟩)
   . obtain⟨x,hx,h⟩:=hT t v hv;exact⟨x,hx,h.cells (F7 hr.2)⟩
   . refine⟨hf.io,by simpa [qR]using hf.size,λb hb hn=>?_,hf.fm,hf.Ci,hf.mm,hf.own,hf.hm,hf.sm,hf.dm,hf.mn⟩;rw[pG (by have:=hr.1;omega)];exact hf.bw b hb hn
   grind [pG,List.mem_cons_of_mem]
def znL(hR:R I w F μ P C){t:TypeId}{i:TI}(hi:ti P t=some i){p v:V}(hx:dV I w F μ p x)(h:Ha i C p=some v) :
 ∃ A y,x=.pointer (some A)/\(loadVar t A).run P w=.ok y w/\dV I w F μ v y:=by
 obtain⟨y,M,O⟩:=zhb hR hi hx h
 have hp:∃ A,x=.pointer (some A):=by
  unfold Ha at h;split at h
  . obtain⟨m,_,rfl⟩:=hx.yc;exact⟨_,rfl⟩
  . have hx:=hx.Gd;cases hx;exact⟨_,rfl⟩
  . cases h
 obtain⟨A,rfl⟩:=hp;exact⟨A,y,rfl,by simpa [Instr.loadAt,Instr.sureAddr]using M,O⟩
theorem zgJ (hR:R I w F μ P C)  (hT:kH I w F μ T tm):∀ {l:Z ResultVar} {vs:Z V},MZ P T C l=some vs ->
 ∃ xs:Z Value,(l.mapM (λx:ResultVar=>match x with
   |.tmp t=>(pure (tm.getD t undef):Sem Value)
   |.cell a t=>do loadVar t (<- asAddr (tm.getD a undef)))).run P w=.ok xs w/\xs.length=vs.length/\∀ (i:Nat) (v:V),vs[i]?=some v->∃ x,xs[i]?=some x/\dV I w F μ v x:=by
 intro l
 induction l with
 |nil=>intro vs h;cases h;exact⟨[],rfl,rfl,λi v hi=>by simp at hi⟩
 | cons x l ih =>
   intro vs h
   replace h:(W (match x with
    |.tmp t=>T.get t
    |.cell a t=>W (ti P t) λi=>W (T.get a) λp=>Ha i C p) λv=>W (MZ P T C l) λr=>some (v::r))=some vs:=h
   simp only[aA]at h;obtain⟨v,hv,r,hr,h⟩:=h;cases h;obtain⟨xs,M,O,h3⟩:=ih hr
   have sE:∃ y,(match x with
    |.tmp t=>(pure (tm.getD t undef):Sem Value)
    |.cell a t=>do loadVar t (<- asAddr (tm.getD a undef))).run P w=.ok y w/\dV I w F μ v y:=by
    cases x with
    | tmp t =>
      obtain⟨y,hy,hr⟩:=hT t v hv
      simp_all
    | cell a t =>
      simp only[aA]at hv;obtain⟨i,hi,p,hp,hl⟩:=hv;obtain⟨y,hy,hr⟩:=hT a p hp;obtain⟨A,z,rfl,hz,HH⟩:=znL hR hi hr hl;refine⟨z,?_,HH⟩;simp[hy,asAddr,hz]
   obtain⟨y,hy,hyr⟩:=sE;refine⟨y::xs,?_,by simp[O],λi u hi=>?_⟩
   . simp_all
   grind
theorem WA{vs:Z V}{xs:Array Value}(hlen:xs.size=vs.length)(h:∀ (i:Nat) (v:V),vs[i]?=some v->∃ x,xs[i]?=some x/\dV I w F μ v x) :
 dV I w F μ (xO vs) (if h:xs.size=1 then xs[0]else .tuple xs):=by
 match vs with
 | [] =>
   rw[dif_neg (by rw[hlen];simp)];exact .tuple [] xs hlen λi v hi=>by simp at hi
 | [v] =>
   have hlen1:xs.size=1:=hlen;rw[dif_pos hlen1];obtain⟨x,hx,hr⟩:=h 0 v rfl;rw[fe (by rw[hlen];simp)]at hx;cases hx;exact hr
 | v::u::t =>
   rw[dif_neg (by rw[hlen];simp)];refine .tuple (v::u::t) xs hlen λi y hi=>?_
   obtain⟨x,hx,hr⟩:=h i y hi
   simp_all
def Xr :∀ {vs:Z V} {i:Nat} {T T':PT V} {tm:Array Value},jE n vs i T=some T'->kH I w F μ T tm->(∀ (k:Nat) (v:V),vs[k]?=some v->∃ x,tm[i+k]?=some x/\dV I w F μ v x)->kH I w F μ T' tm:=by
 intro vs
 induction vs with
 |nil=>intro i T T' tm h hT _;cases h;exact hT
 | cons v vs ih =>
   intro i T T' tm h hT hx;replace h:gd (Nat.blt i n) (jE n vs (i+1) (T.set i v))=some T':=h;simp only[bE]at h;refine ih h.2 (λt u hu=>?_) (λk u hk=>?_)
   . rw[PT.cK]at hu;by_cases e:t=i
     . subst e;rw[if_pos rfl]at hu;cases hu;exact hx 0 v rfl
     . rw[if_neg e]at hu;exact hT t u hu
   . have:=hx (k+1) u (by simpa using hk)
     rwa [show i+(k+1)=i+1+k by omega]at this
theorem zo7(cE:RU I E ev){vs:Z V}{v:V}(h:K4 E ev f vs C=some (v,a8)):aT I E.P f vs C v a8:=by
 simp only[K4,aA]at h;obtain⟨fn,hf,c,hb,T,hT,⟨ex,T1,cm⟩,hq,h⟩:=h;intro X w F μ xs hR hD hO hA
 have D2:∃ l,ex≠.exit 0/\(∀ i,ex≠.exit i)/\MZ E.P T1 cm fn.results.toList=some l/\v=xO l/\a8=cm:=by
  grind [Uq,aA]
 obtain⟨l,_,cb,hl,rfl,rfl⟩:=D2;refine callsIn_of_wp_marks hf hb trivial ?_;have b8:fn.ntmps<=(xs++Array.replicate (fn.ntmps-xs.size) undef).size:=by simp;omega
 have hT0:kH I w F μ T (xs++Array.replicate (fn.ntmps-xs.size) undef):=by
  refine Xr hT (λt u hu=>by cases hu) λk u hk=>?_
  obtain⟨x,hx,hr⟩:=hA.2 k u hk
  grind
 refine cE.code hq ⟨w.heap.size,[],false⟩ X none w F μ _ _ ⟨λ_=>rfl,rfl⟩ hR hD hO hT0 b8 (Marks.nil (af _)) ?_;intro a' w' F' μ' tM hT' _ hM AG
 have rI:LeavesInM (Wr none) 0 E.P fn a'.tmps (zyR I E.P w F μ C (xO l) a8) a'.defers .returning w':=by
  obtain⟨hN,rs,⟨r1,_⟩,r2,r3⟩:=hM;rw[r2,show ∀ l:Z Deferred,l++(NB.mk w.heap.size [] false).base=l from j5];refine zjB (af _) (λw2 o4 AT vc=>?_) rs w' tM hT' AG r1 r3;obtain⟨ys,M,O,h3⟩:=zgJ o4 AT hl;refine⟨_,?_,F',μ',o4,WA (xs:=ys.toArray) (by simpa using O) (λi u hi=>by simpa using h3 i u hi),vc⟩;unfold results;rw[Sem.run_bind,Array.mapM_eq_mapM_toList];rw[Sem.run_map];exact Eq.trans (congrArg (λz:Result (Z Value)=>(z.andThen λa w'=>Result.ok a.toArray w').andThen λa w'=>Sem.run E.P (pure (if h:a.size=1 then a[0]else Value.tuple a)) w') M) rfl
 cases ex with
 |normal=>exact rI
 |ret=>exact rI
 |exit i=>exact absurd rfl (cb i)
theorem zoN (hρ:Good I)  (aq:bH I E) (hP:E.P.follows .mixedOrders=true)  (b6:∀ i,i<=n->RU I E (rF E i)) {rd:Bool} {sz:Nat}  {ex:Ex}
 (h:QQ E (rF E n) rd sz c T C=some (ex,T',a8)):zga I E.P rd sz c T C ex T' a8:=by
 have cE:=b6 n (af _);have By:=cE.kept;have h0:=h;unfold QQ at h;split at h
 . cases h;intro N X r w F μ a Q _ hR hD hO hT b8 hM hQ;exact wpIn_skip (hQ a w F μ hR hT rfl hM (Fr.refl ..))
 . rename_i id ops draw;intro N X r w F μ a Q _ hR hD hO hT b8 hM hQ;simp only[To,aA]at h;obtain⟨q,hq,h⟩:=h;cases h;rw[iO]at hq
   cases draw with
   |true=>exact zsV hρ aq cE hP hq hR hD hO hT b8 hM hQ
   |false=>exact ziY hρ aq cE hq hR hD hO hT b8 hM hQ
 . rename_i x y;intro N X r w F μ a Q hr hR hD hO hT b8 hM hQ;simp only[aA]at h;obtain⟨⟨e1,T1,cm⟩,hq,h⟩:=h;refine wpIn_seq ?_;rcases zbc h with⟨e,h⟩|⟨cb,e⟩
   . dsimp only at e h;subst e;refine cE.code hq N X r w F μ a _ hr hR hD ((By.code h).off hO) hT b8 hM ?_;intro a1 w1 F1 μ1 F5 j8 eE qT rN;refine cE.code h N X r w1 F1 μ1 a1 _ hr F5 (rN.cr (By.code hq).le hD) hO j8 (by rw[eE];exact b8) qT ?_;intro a2 w2 F2 μ2 o4 AT hsz2 Z1 vc;exact hQ a2 w2 F2 μ2 o4 AT (by rw[hsz2,eE]) Z1 (rN.trans vc)
   . cases e;refine cE.code hq N X r w F μ a _ hr hR hD hO hT b8 hM ?_
     grind [zgo]
 . rename_i q x y;intro N X r w F μ a Q hr hR hD hO hT b8 hM hQ;simp only[aA,V.fL]at h;obtain⟨_,hv,t,rfl,h⟩:=h;have he:=(dJ (a:=a) hT hv).uE;refine wpIn_cond he ?_;rw[iO]at h
   cases t with
   |true=>exact cE.code h N X r w F μ a Q hr hR hD hO hT b8 hM hQ
   |false=>exact cE.code h N X r w F μ a Q hr hR hD hO hT b8 hM hQ
 . rename_i id body;intro N X r w F μ a Q hr hR hD hO hT b8 hM hQ;simp only[aA]at h;obtain⟨⟨e1,T1,cm⟩,hq,h⟩:=h;refine wpIn_block ?_;unfold Vn at h;split at h
   . rename_i j he;dsimp only at he;subst he;rw[iO]at h;split at h
     . rename_i hj;rw[beq_true]at hj;subst hj;cases h;refine cE.code hq N X r w F μ a _ hr hR hD hO hT b8 hM ?_;intro a1 w1 F1 μ1 F5 j8 eE qT rN;show (if j=j then Q .normal a1 w1 else Q (.exit j) a1 w1);rw[if_pos rfl];exact hQ a1 w1 F1 μ1 F5 j8 eE qT rN
     . rename_i hj;rw[beq_true]at hj;cases h;refine cE.code hq N X r w F μ a _ hr hR hD hO hT b8 hM ?_;intro a1 w1 F1 μ1 F5 j8 eE qT rN;show (if j=id then Q .normal a1 w1 else Q (.exit j) a1 w1);rw[if_neg hj];exact hQ a1 w1 F1 μ1 F5 j8 eE qT rN
   . rename_i cb;cases h;refine cE.code hq N X r w F μ a _ hr hR hD hO hT b8 hM ?_;intro a1 w1 F1 μ1 F5 j8 eE qT rN;have:=hQ a1 w1 F1 μ1 F5 j8 eE qT rN
     cases ex with
     |normal=>exact this
     |ret=>exact this
     |exit j=>exact absurd rfl (cb j)
 . rename_i body;intro N X r w F μ a Q hr hR hD hO hT b8 hM hQ
   refine zdp (j:=n+1) (λj a' w'=>j<=n+1/\∃ T1 cm F1 μ1,(rF E j).code rd sz (.loop body) T1 cm=some (ex,T',a8)/\R I w' F1 μ1 E.P cm/\Ol X μ1 cm/\kH I w' F1 μ1 T1 a'.tmps/\a'.tmps.size=a.tmps.size/\Marks N w' a'.defers/\Fr w F μ C w' F1 μ1 cm)
    ?_ ⟨af _,T,C,F,μ,h0,hR,hD,hT,rfl,hM,Fr.refl ..⟩
   rintro j a1 w1 ⟨hj,T1,cm,F1,μ1,hc,F5,tP,j8,eE,qT,rN⟩
   cases j with
   |zero=>cases hc
   | succ i =>
     have zsF:=b6 i (by omega);replace hc:(W ((rF E i).code rd sz body T1 cm) λr=>Ki (rF E i) rd sz (.loop body) r)=some (ex,T',a8):=hc;simp only[aA]at hc;obtain⟨⟨e2,T2,dt⟩,hq,hc⟩:=hc;rcases zbc hc with⟨e,hc⟩|⟨cb,e⟩
     . dsimp only at e hc;subst e;refine zsF.code hq N X r w1 F1 μ1 a1 _ hr F5 tP ((zsF.kept.code hc).off hO) j8 (by rw[eE];exact b8) qT ?_;intro a2 w2 F2 μ2 o4 AT hsz2 Z1 vc;exact⟨i,iZ i,by omega,T2,dt,F2,μ2,hc,o4,vc.cr (zsF.kept.code hq).le tP,AT,by rw[hsz2,eE],Z1,rN.trans vc⟩
     . cases e;refine zsF.code hq N X r w1 F1 μ1 a1 _ hr F5 tP hO j8 (by rw[eE];exact b8) qT ?_;intro a2 w2 F2 μ2 o4 AT hsz2 Z1 vc;exact zgo cb (hQ a2 w2 F2 μ2 o4 AT (by rw[hsz2,eE]) Z1 (rN.trans vc))
 . cases h;intro N X r w F μ a Q _ hR hD hO hT b8 hM hQ;exact wpIn_exit (hQ a w F μ hR hT rfl hM (Fr.refl ..))
 . cases h;intro N X r w F μ a Q _ hR hD hO hT b8 hM hQ;exact wpIn_ret (hQ a w F μ hR hT rfl hM (Fr.refl ..))
 . rename_i g ps assign body
   grind [bE,jN,zi5]
 . cases h
def vK (P : Program) : Prop := ∀ (f : Nat) (fn : Func), P.funcs[f]? = some fn -> fn.body.isSome = true -> fn.name ≠ "runtime.NumGoroutine"
theorem zoC(hρ:Good I)(aq:bH I E)(hP:E.P.follows .mixedOrders=true)(hN:vK E.P):∀ n,RU I E (rF E n):=by
 intro n
 induction n using Nat.strongRecOn with
 | _ n ih =>
   cases n with
   |zero=>exact⟨λh=>(by cases h),λh=>(by cases h),λh=>(by cases h),zcj aq.kept 0⟩
   | succ n =>
     refine⟨λh=>zoN hρ aq hP (λi hi=>ih i (by omega)) h,λh=>zo7 (ih n (by omega)) h,λh=>?_,zcj aq.kept (n+1)⟩;replace h:K4 E (rF E n) _ _ _=some _:=h;simp only[K4,aA]at h;obtain⟨fn,hf,c,hb,_⟩:=h;exact⟨fn,hf,by rw[hb];rfl,hN _ _ hf (by rw[hb];rfl)⟩
end
section
variable {I:Nat->Value}
def HR(I:Nat->Value)(w:World)(v:V)(x:Value):Prop:=fG I w (λb=>b<w.heap.size) v x
theorem IK(hρ:Good I)(aq:bH I E)(hP:E.P.follows .mixedOrders=true)(hN:vK E.P){vs:Z V}{v:V}(h:ziM E n f vs=some v)(hp:cu vs=true) :
 aT I E.P f vs C v C:=by
 refine QW (ev:=rF E n) hp (λh=>(zoC hρ aq hP hN n).call h) ?_
 grind [ziM,aA,rG]
end
def VT (P:Program):Nat->TypeId->Z V->Prop
 | 0,_,_=>False
 | n+1,t,vs=>match P.underlying t with
   |some .bool=>∃ b,vs=[.bool b]
   |some (.int k)=>∃ m,vs=[.int k m]/\(Lit.int k m).wf=true
   |some .string=>∃ l,vs=[.str l]/\l.length<=maxLen/\∀ x∈l,x<256
   |some (.slice e)=>vs=[.aE]\/∃ es,vs=[.sl es false]/\es.length<=maxLen/\∀ c∈es,VT P n e c
   |some (.struct fs)=>vs.length=P.cellsOf t/\∀ f∈fs.toList,VT P n f.type ((vs.drop f.offset).take (P.cellsOf f.type))
   |_=>False
def zhe(P:Program):Z Field->Nat->Nat->Bool
 | [],off,total=>Nat.beq off total
 |f::fs,off,total=>Nat.beq f.offset off&&zhe P fs (off+P.cellsOf f.type) total
def zee(P:Program)(S:Z TypeId):Bool:=S.all λt=>match P.underlying t with
 |some .bool|some (.int _)|some .string=>Nat.beq (P.cellsOf t) 1
 |some (.slice e)=>S.contains e&&Nat.beq (P.cellsOf t) 1&&Nat.blt 0 (P.cellsOf e)
 |some (.struct fs)=>zhe P fs.toList 0 (P.cellsOf t)&&fs.toList.all λf=>S.contains f.type
 |_=>false
section
variable (I:Nat->Value){H:Type}{enc:TypeId×Value->H}{w:World}{base:Nat}{sp:Nat->Bool}{held:Bool}
def Cells(w:World)(vs:Z V)(cs:Z Value):Prop:=vs.length=cs.length/\∀ (i:Nat) (v:V),vs[i]?=some v->∃ c,cs[i]?=some c/\HR I w v c
def Cells.one{v:V}{c:Value}(h:HR I w v c):Cells I w [v] [c]:=⟨rfl,λi u hu=>by
 match i,hu with
 | 0,hu=>cases hu;exact⟨c,rfl,h⟩⟩
theorem Cells.append{vs us:Z V}{cs ds:Z Value}(h:Cells I w vs cs)(k:Cells I w us ds):Cells I w (vs++us) (cs++ds):=by
 refine⟨by rw[bB,bB,h.1,k.1],λi v hv=>?_⟩;by_cases hi:i<vs.length
 . rw[jW hi]at hv;obtain⟨c,M,O⟩:=h.2 i v hv
   grind
 . rw[eQ (by omega)]at hv;obtain⟨c,M,O⟩:=k.2 _ v hv;exact⟨c,by rw[eQ (by rw[<- h.1];omega),<- h.1];exact M,O⟩
theorem Zy {T:TypeId->Z Value->Z V->Prop} (hT:∀ t cs vs,T t cs vs->Cells I w vs cs/\vs.length=P.cellsOf t) {cs:Z Value}:∀ (fs:Z Field) (off:Nat),zhe P fs off cs.length=true->off<=cs.length ->
 (∀ f∈fs,∃ vs,T f.type ((cs.drop f.offset).take (P.cellsOf f.type)) vs) ->
 ∃ vs,Cells I w vs (cs.drop off)/\∀ f∈fs,off<=f.offset/\T f.type ((cs.drop f.offset).take (P.cellsOf f.type)) ((vs.drop (f.offset-off)).take (P.cellsOf f.type)):=by
 intro fs
 induction fs with
 | nil =>
   intro off hl _ _;have he:off=cs.length:=iV hl;refine⟨[],?_,λf hf=>by cases hf⟩;rw[he,bz];exact⟨rfl,λi v hv=>by simp at hv⟩
 | cons f fs ih =>
   intro off hl hle hf;simp only[zhe,aQ]at hl;have ho:f.offset=off:=iV hl.1;obtain⟨us,zNM⟩:=hf f (aD ..);obtain⟨hc,hlen⟩:=hT _ _ _ zNM
   have W0:off+P.cellsOf f.type<=cs.length:=by
    have:=hc.1
    grind
   obtain⟨vs,fv,hr⟩:=ih _ hl.2 W0 λg hg=>hf g (aF _ hg)
   refine⟨us++vs,?_,λg hg=>?_⟩
   . have e:cs.drop off=(cs.drop f.offset).take (P.cellsOf f.type)++cs.drop (off+P.cellsOf f.type):=by
      rw[ho,<- List.drop_drop,List.take_append_drop]
     rw[e];exact hc.append I fv
   . rcases aB.1 hg with rfl|hg
     . simp_all
     grind [List.drop_append,List.drop_eq_nil_of_le]
theorem zcG{p:Nat->α->Prop}:∀ n:Nat,(∀ i,i<n->∃ x,p i x)->∃ l:Z α,l.length=n/\∀ (i:Nat) (x:α),l[i]?=some x->p i x:=by
 intro n
 induction n with
 |zero=>exactλ_=>⟨[],rfl,λi x h=>by simp at h⟩
 | succ n ih =>
   intro h;obtain⟨l,M,O⟩:=ih λi hi=>h i (by omega)
   obtain⟨x,hx⟩:=h n (by omega);refine⟨l++[x],by simp[M],λi y hy=>?_⟩
   grind
theorem Kb{row:Z Value}(h:w.cells? base a n=some row):row.length=n/\∀ j,j<n->row[j]?=w.cell? (a.add j):=by
 unfold World.cells? at h;split at h
 . refine⟨by simpa using mapM_some_length h,λj hj=>?_⟩;exact(mapM_some_get h j j (by simp[hj])).symm
 . cases h
theorem zc8(ha:a.spot=none)(n m:Nat):(a.add n).add m=⟨a.block,a.off+n+m,none⟩:=by
 cases a;simp only at ha;subst ha;unfold Addr.add
 grind
theorem ziB  {es:Z (Z V)} {size cap:Nat} (b8:0<size) (hlen:es.length<=cap) (h:∀ i e,es[i]?=some e->e.length=size/\∃ row,w.cells? base (a.add (i*size)) size=some row/\Cells I w e row) :
 HR I w (.sl es false) (.slice (some a) es.length cap):=by
 cases es with
 |nil=>exact .po _ _ _ (λh=>by cases h)
 | cons e0 es0 =>
   obtain⟨qs,row0,xa,vd⟩:=h 0 e0 rfl;have Dd:=(Kb xa).2 0 b8;have zJ0:0<row0.length:=by rw[(Kb xa).1];exact b8
   rw[ax zJ0]at Dd
   have vA:a.spot=none/\a.block<w.heap.size:=by
    simp only[Nat.zero_mul,Addr.add,if_true]at Dd;unfold World.cell? at Dd;split at Dd
    . rename_i hb;split at Dd
      . cases Dd
      . rename_i C;refine⟨by simpa using C,?_⟩
        grind
    . cases Dd
   obtain⟨C,hb⟩:=vA;obtain⟨b,off,s⟩:=a;simp only at C hb;subst C;refine .qe (e0::es0) b off size cap false (λi j=>(w.cell? ⟨b,off+i*size+j,none⟩).getD undef) hb (λe he=>?_) (λi e j v hi hj=>?_) (λi e j v hi hj=>?_) hlen (λh=>by cases h)
   . grind [List.mem_iff_getElem?]
   . obtain⟨hl,row,hr,hc⟩:=h i e hi;obtain⟨c,M,O⟩:=hc.2 j v hj;have kx:j<size:=by rw[<- hl];exact(aM.1 hj).1
     grind [Kb,zc8]
   . obtain⟨hl,row,hr,hc⟩:=h i e hi;obtain⟨c,M,O⟩:=hc.2 j v hj;have kx:j<size:=by rw[<- hl];exact(aM.1 hj).1
     have:=(Kb hr).2 j kx;rw[M,zc8 rfl]at this;rw[<- this];exact O
theorem TC  (hS:zee P S=true):∀ (n:Nat) (t:TypeId) (cs:Z Value) (x:DataW H×Z MemPlace),t∈S->DataW.trod enc P w base sp held n t cs=some x ->
 ∃ vs,VT P n t vs/\Cells I w vs cs/\vs.length=P.cellsOf t:=by
 intro n
 induction n with
 |zero=>intro t cs x _ h;simp[DataW.trod]at h
 | succ n ih =>
   intro t cs x ht h;have hp:=aj.1 hS t ht
   cases hu:P.underlying t with
   |none=>rw[hu]at hp;cases hp
   | some d =>
     rw[hu]at hp
     cases d with
     | bool =>
       obtain⟨b,rfl,_⟩:=DataW.trod_bool hu h;exact⟨[.bool b],by unfold VT;rw[hu];exact⟨b,rfl⟩,Cells.one I (.bool b),(iV hp).symm⟩
     | int k =>
       obtain⟨m,rfl,_,hw⟩:=DataW.trod_int hu h;exact⟨[.int k m],by unfold VT;rw[hu];exact⟨m,rfl,hw⟩,Cells.one I (.int k m),(iV hp).symm⟩
     | string =>
       obtain⟨s,rfl,_,hl⟩:=DataW.trod_string hu h;refine⟨[.str (bytesOf s)],?_,Cells.one I (.str s),(iV hp).symm⟩;unfold VT;rw[hu];refine⟨_,rfl,?_,?_⟩
       . unfold bytesOf
         simp_all
       . intro x hx;unfold bytesOf at hx;obtain⟨b,_,rfl⟩:=aI.1 hx;exact b.toNat_lt
     | slice e =>
       simp only[aQ]at hp;have he:e∈S:=by simpa using hp.1.1
       have B1:P.cellsOf t=1:=iV hp.1.2;have oR:0<P.cellsOf e:=gz.1 hp.2;rcases DataW.trod_slice hu h with⟨rfl,_⟩|⟨a,len,cap,elems,rest,m,hm,rfl,_,hb,hlc,hcm,D4,hread,_⟩
       . exact⟨[.aE],by unfold VT;rw[hu];exact .inl rfl,Cells.one I .aE,B1.symm⟩
       . have Hj:m=n:=by omega
         subst Hj
         have key:∀ i,i<len->∃ vs,VT P m e vs/\vs.length=P.cellsOf e/\∃ row,w.cells? base (a.add (i*P.cellsOf e)) (P.cellsOf e)=some row/\Cells I w vs row:=by
          grind [List.getElem?_eq_getElem,Option.bind_eq_some_iff]
         obtain⟨es,gA,b6⟩:=zcG len key;refine⟨[.sl es false],?_,Cells.one I ?_,B1.symm⟩
         . grind [VT,List.mem_iff_getElem?]
         . rw[<- gA];exact ziB I oR (by omega) λi e' hi=>⟨(b6 i e' hi).2.1,(b6 i e' hi).2.2⟩
     | struct fs =>
       simp only[aQ]at hp;obtain⟨xs,m,hm,_,eb,hxl,hf⟩:=DataW.trod_struct hu h;have Hj:m=n:=by omega
       subst Hj
       have ew:∀ f∈fs.toList,f.type∈S:=λf hf=>by
        grind
       obtain⟨vs,fv,b6⟩:=Zy (P:=P) I (w:=w) (T:=λt cs vs=>VT P m t vs/\Cells I w vs cs/\vs.length=P.cellsOf t) (λt cs vs h=>⟨h.2.1,h.2.2⟩) (cs:=cs) fs.toList 0 (by rw[eb];exact hp.1) (aW _) λf Pc=>by
        obtain⟨i,hi⟩:=lZ.1 Pc
        grind
       rw[sw]at fv;refine⟨vs,?_,fv,by rw[fv.1,eb]⟩;unfold VT;rw[hu];refine⟨by rw[fv.1,eb],λf Pc=>?_⟩
       grind
     |_=>cases hp
end
structure Mo(a b:Ev):Prop where
 code:∀ {rd sz c T C r},a.code rd sz c T C=some r->b.code rd sz c T C=some r
 call:∀ {f vs C r},a.call f vs C=some r->b.call f vs C=some r
section
variable {a b:Ev}{T:PT V}
def zkH (h:Mo a b)  {vs:Z V} {r:V×HS} (hr:ET E a f vs C=some r):ET E b f vs C=some r:=by
 unfold ET at hr ⊢
 cases hp:E.wx f with
 | zero =>
   rw[hp]at hr;replace hr:bi (cu vs) (rG a f vs C) (a.call f vs C)=some r:=hr;show bi (cu vs) (rG b f vs C) (b.call f vs C)=some r;rw[iO]at hr ⊢;split at hr
   . rename_i hb;rw[if_pos hb];simp only[rG,aA]at hr ⊢;obtain⟨q,M,O⟩:=hr;exact⟨q,h.call M,O⟩
   . rename_i hb;rw[if_neg hb];exact h.call hr
 | succ m =>
   rw[hp]at hr
   cases m with
   |zero=>exact h.call hr
   | succ m =>
    cases m with
    |succ m =>
     replace hr:Al a f vs C=some r:=hr;show Al b f vs C=some r;simp only[Al,aA]at hr ⊢;obtain⟨q,M,O⟩:=hr;exact⟨q,h.call M,O⟩
    |zero =>
     replace hr:vP (a.call f vs C) (λey=>nT a f ey C) (lT C vs)=some r:=hr;show vP (b.call f vs C) (λey=>nT b f ey C) (lT C vs)=some r
     cases cm:lT C vs with
     |none=>rw[cm]at hr;exact h.call hr
     | some ey =>
       rw[cm]at hr;replace hr:nT a f ey C=some r:=hr;show nT b f ey C=some r;simp only[nT,aA,bE]at hr ⊢;obtain⟨q,M,O⟩:=hr;exact⟨q,h.call M,O⟩
theorem zoZ(h:Mo a b){vs:Z V}{r:V×HS}(hr:FL E a f vs C=some r):FL E b f vs C=some r:=by
 unfold FL at hr ⊢
 cases hq:E.dE f vs C with
 |none=>rw[hq]at hr;exact zkH h hr
 |some q=>rw[hq]at hr;exact hr
theorem ziP(h:Mo a b){id:Nat}{vs:Z V}{r:V×HS}(hr:zA a id vs C=some r):zA b id vs C=some r:=by
 simp only[zA,aA,bE]at hr ⊢;obtain⟨o,M,l,O,h3,T,h4,q,h5,h6,o1,h7,l1,h8,h9,p,h10,h11⟩:=hr;exact⟨o,M,l,O,h3,T,h4,q,h.code h5,h6,o1,h7,l1,h8,h9,p,h.code h10,h11⟩
theorem Iq(h:Mo a b){id:Nat}{r:V×HS}(hr:cp E a dr T C id o=some r):cp E b dr T C id o=some r:=by
 unfold cp at hr ⊢
 cases hc:qE o.op with
 |none=>rw[hc]at hr;exact hr
 | some c =>
   rw[hc]at hr;replace hr:wo E a T C id c=some r:=hr;show wo E b T C id c=some r;simp only[wo,aA]at hr ⊢;obtain⟨vs,M,O⟩:=hr;refine⟨vs,M,?_⟩
   cases M1:c.callee with
   |builtin bb=>rw[M1]at O;exact O
   | value x =>
     rw[M1]at O;simp only[aA]at O ⊢;obtain⟨v,h3,h4⟩:=O;refine⟨v,h3,?_⟩;unfold Lf at h4 ⊢
     grind [zoZ,id,ziP]
   |invoke x n=>rw[M1]at O;cases O
theorem Xk(h:Mo a b){sz id:Nat}{ops:Z Oper}{r:PT V×HS}(hr:vT E a sz ops o id T C=some r):vT E b sz ops o id T C=some r:=by
 simp only[vT,aA]at hr ⊢;obtain⟨w,M,O⟩:=hr;refine⟨w,M,?_⟩
 grind [iO,bE,aA,Iq]
theorem Tu(h:Mo a b){sz:Nat}{ops:Z Oper}:∀ {l:Z Oper} {id:Nat} {T:PT V} {C:HS} {r:PT V×HS},uO E a sz ops l id T C=some r->uO E b sz ops l id T C=some r:=by
 intro l
 induction l with
 |nil=>intro id T C r hr;exact hr
 | cons o l ih =>
   intro id T C r hr;replace hr:(W (vT E a sz ops o id T C) λr=>uO E a sz ops l (id+1) r.1 r.2)=some r:=hr;show (W (vT E b sz ops o id T C) λr=>uO E b sz ops l (id+1) r.1 r.2)=some r
   grind [aA,Xk]
theorem zki(h:Mo a b){id:Nat}{r:V×HS×Z Nat×Z Nat}(hr:zX E a o id T C=some r):zX E b o id T C=some r:=by
 unfold zX at hr ⊢
 cases hc:dR o.op with
 | zero =>
   rw[hc]at hr;replace hr:(W (cp E a true T { H:=iA C.H (cN T o.op),n:=0,log:=[] } id o) λr=>some (r.1,C,cN T o.op,[]))=some r:=hr;show (W (cp E b true T { H:=iA C.H (cN T o.op),n:=0,log:=[] } id o) λr=>some (r.1,C,cN T o.op,[]))=some r
   grind [aA,Iq]
 | succ m =>
   rw[hc]at hr
   cases m with
   | zero =>
     replace hr:(gd (ig C id) (W (cp E a true T { H:=.leaf,n:=0,log:=[] } id o) λr=>W (r.2.H.get id) λo'=>gd (nt o'.fz) (some (r.1,C.put id o',[id],[]))))=some r:=hr;show (gd (ig C id) (W (cp E b true T { H:=.leaf,n:=0,log:=[] } id o) λr=>W (r.2.H.get id) λo'=>gd (nt o'.fz) (some (r.1,C.put id o',[id],[]))))=some r
     grind [aA,bE,Iq]
   | succ m =>
     replace hr:(gd (ig C id) (W (cp E a true T { H:=C.H,n:=C.n,log:=[] } id o) λr=>some (r.1,{ H:=r.2.H,n:=r.2.n,log:=jY r.2.log C.log },[],r.2.log)))=some r:=hr;show (gd (ig C id) (W (cp E b true T { H:=C.H,n:=C.n,log:=[] } id o) λr=>some (r.1,{ H:=r.2.H,n:=r.2.n,log:=jY r.2.log C.log },[],r.2.log)))=some r
     grind [aA,bE,Iq]
theorem zfc(h:Mo a b){id:Nat}{r:V×HS×Z Nat×Z Nat}(hr:Aj E a o id T C=some r):Aj E b o id T C=some r:=by
 grind [Aj,iO,Pt,aA,bE,Iq,zki]
theorem zd6(h:Mo a b){sz:Nat}{ops:Z Oper}:∀ {l:Z Oper} {id:Nat} {T:PT V} {C:HS} {acc:Z (Z Nat×Z Nat)} {r:(PT V×HS)×Z (Z Nat×Z Nat)},
 wL E a sz ops l id T C acc=some r->wL E b sz ops l id T C acc=some r:=by
 intro l
 induction l with
 |nil=>intro id T C acc r hr;exact hr
 | cons o l ih =>
   intro id T C acc r hr;replace hr:(W (kR E a ops o id (iA T (looks ops o)) C) λr=>W (Kj sz T o.dst r.1) λT'=>wL E a sz ops l (id+1) T' r.2.1 (jY acc [r.2.2]))=some r:=hr;show (W (kR E b ops o id (iA T (looks ops o)) C) λr=>W (Kj sz T o.dst r.1) λT'=>wL E b sz ops l (id+1) T' r.2.1 (jY acc [r.2.2]))=some r;simp only[aA]at hr ⊢;obtain⟨q,M,T',O,h3⟩:=hr;refine⟨q,?_,T',O,ih h3⟩;simp only[kR,aA]at M ⊢;obtain⟨w,h4,h5⟩:=M;refine⟨w,h4,?_⟩
   grind [iO,zfc]
theorem zrB(h:Mo a b){sz:Nat}{draw:Bool}{r:Ex×PT V×HS}(hr:To E a sz l draw T C=some r):To E b sz l draw T C=some r:=by
 grind [To,aA,iO,QI,bE,zd6,Tu]
def zgC(h:Mo a b){rd:Bool}{sz:Nat}{q r:Ex×PT V×HS}(hr:Ki a rd sz c q=some r):Ki b rd sz c q=some r:=by
 unfold Ki at hr ⊢
 cases hq:q.1 with
 |normal=>rw[hq]at hr;exact h.code hr
 |ret=>rw[hq]at hr;exact hr
 |exit i=>rw[hq]at hr;exact hr
def zoO(h:Mo a b){rd:Bool}{sz:Nat}{r:Ex×PT V×HS}(hr:QQ E a rd sz c T C=some r):QQ E b rd sz c T C=some r:=by
 cases c<;>simp only[QQ]at hr ⊢<;>first|exact hr|exact zrB h hr|skip
 case seq x y =>
  simp only[aA]at hr ⊢;obtain⟨q,M,O⟩:=hr;exact⟨q,h.code M,zgC h O⟩
 case cond q x y =>
  simp only[aA]at hr ⊢;obtain⟨v,M,t,O,h3⟩:=hr;refine⟨v,M,t,O,?_⟩;rw[iO]at h3 ⊢;split at h3
  . rename_i hw;rw[if_pos hw];exact h.code h3
  . rename_i hw;rw[if_neg hw];exact h.code h3
 case block id body =>
  simp only[aA]at hr ⊢;obtain⟨q,M,O⟩:=hr;exact⟨q,h.code M,O⟩
 case loop body =>
  simp only[aA]at hr ⊢;obtain⟨q,M,O⟩:=hr;exact⟨q,h.code M,zgC h O⟩
 case rangeFunc g ps assign body =>
  simp only[bE,aA,Gf]at hr ⊢;obtain⟨M,v,O,p,h3,h4,q,h5,h6⟩:=hr;exact⟨M,v,O,p,h3,h4,q,h.call h5,h6⟩
def zo8(h:Mo a b){vs:Z V}{r:V×HS}(hr:K4 E a f vs C=some r):K4 E b f vs C=some r:=by
 simp only[K4,aA]at hr ⊢;obtain⟨fn,M,c,O,T,h3,q,h4,h5⟩:=hr;exact⟨fn,M,c,O,T,h3,q,h.code h4,h5⟩
def zci(E:Env):∀ n,Mo (rF E n) (rF E (n+1)):=by
 intro n
 induction n with
 |zero=>exact⟨λh=>(by cases h),λh=>(by cases h)⟩
 |succ n ih=>exact⟨λh=>zoO ih h,λh=>zo8 ih h⟩
def Je(E:Env){m:Nat}(h:m<=n):Mo (rF E m) (rF E n):=by
 induction h with
 |refl=>exact⟨λh=>h,λh=>h⟩
 |step _ ih=>exact⟨λh=>(zci E _).code (ih.code h),λh=>(zci E _).call (ih.call h)⟩
end
def ok(x:Y α)(K:α->Prop):Prop:=∃ a,x=some a/\K a
def dP(a:α)(K:α->Prop):ok (some a) K=K a:=propext ⟨λ⟨b,h,k⟩=>by cases h;exact k,λk=>⟨a,rfl,k⟩⟩
def iQ{β:Type}(x:Y α)(f:α->Y β)(K:β->Prop):ok (W x f) K=ok x λa=>ok (f a) K:=by
 cases x with
 |none=>exact propext ⟨λ⟨b,h,_⟩=>(by cases h),λ⟨b,h,_⟩=>(by cases h)⟩
 |some a=>rw[dY,dP]
def wz(c:Bool)(x:Y α)(K:α->Prop):ok (gd c x) K=(c=true/\ok x K):=by
 cases c with
 |true=>rw[qY];simp
 |false=>rw[zcc];exact propext ⟨λ⟨b,h,_⟩=>(by cases h),λ⟨h,_⟩=>(by cases h)⟩
def wN{x:Y α}{K K':α->Prop}(h:ok x K)(hk:∀ a,K a->K' a):ok x K':=let ⟨a,M,O⟩:=h;⟨a,M,hk a O⟩
def br(c A B:Prop):Prop:=(c->A)/\(¬ c->B)
theorem zo2(c:Prop) [Decidable c](A B:Prop):br c A B=if c then A else B:=by
 grind [br]
def zhB(A B:Prop):br True A B=A:=by simp[br]
def zcO(A B:Prop):br False A B=B:=by simp[br]
section
variable {rd:Bool}{sz:Nat}{T:PT V}{Q:Ex->PT V->HS->Prop}
def Jc(E:Env)(rd:Bool)(sz:Nat)(c:Code)(T:PT V)(C:HS)(Q:Ex->PT V->HS->Prop):Prop :=
 ∃ n ex T' a8,(rF E n).code rd sz c T C=some (ex,T',a8)/\Q ex T' a8
def Ex.then(K:PT V->HS->Prop)(Q:Ex->PT V->HS->Prop):Ex->PT V->HS->Prop
 |.normal,T,C=>K T C
 |.ret,T,C=>Q .ret T C
 |.exit i,T,C=>Q (.exit i) T C
def Ex.inBlock(id:Nat)(Q:Ex->PT V->HS->Prop):Ex->PT V->HS->Prop
 |.normal,T,C=>Q .normal T C
 |.ret,T,C=>Q .ret T C
 |.exit i,T,C=>if i=id then Q .normal T C else Q (.exit i) T C
def Oh{Q':Ex->PT V->HS->Prop}(h:Jc E rd sz c T C Q)(hq:∀ e T C,Q e T C->Q' e T C):Jc E rd sz c T C Q' :=
 let ⟨n,e,T',a8,M,O⟩:=h;⟨n,e,T',a8,M,hq _ _ _ O⟩
def ztQ(h:Q .normal T C):Jc E rd sz .skip T C Q:=⟨1,_,_,_,rfl,h⟩
def ztS{id:Nat}(h:Q (.exit id) T C):Jc E rd sz (.exit id) T C Q:=⟨1,_,_,_,rfl,h⟩
def zyI(h:Q .ret T C):Jc E rd sz .ret T C Q:=⟨1,_,_,_,rfl,h⟩
def zyH{a:Code}(h:Jc E rd sz a T C (Ex.then (λT C=>Jc E rd sz b T C Q) Q)):Jc E rd sz (.seq a b) T C Q:=by
 obtain⟨n,e,T1,cm,M,O⟩:=h
 cases e with
 | normal =>
   obtain⟨m,e2,T2,dt,h3,h4⟩:=O;refine⟨max n m+1,e2,T2,dt,?_,h4⟩;show (W ((rF E (max n m)).code rd sz a T C) λr=>Ki (rF E (max n m)) rd sz b r)=_;rw[(Je E (iG n m)).code M,dY];exact(Je E (jL n m)).code h3
 |ret=>exact⟨n+1,.ret,T1,cm,by show (W ((rF E n).code rd sz a T C) λr=>Ki (rF E n) rd sz b r)=_;rw[M,dY];rfl,O⟩
 |exit i=>exact⟨n+1,.exit i,T1,cm,by show (W ((rF E n).code rd sz a T C) λr=>Ki (rF E n) rd sz b r)=_;rw[M,dY];rfl,O⟩
def ztR(h:Jc E rd sz c T C (Ex.then (λT C=>Jc E rd sz (.loop c) T C Q) Q)):Jc E rd sz (.loop c) T C Q:=by
 obtain⟨n,e,T1,cm,M,O⟩:=h
 cases e with
 | normal =>
   obtain⟨m,e2,T2,dt,h3,h4⟩:=O;refine⟨max n m+1,e2,T2,dt,?_,h4⟩;show (W ((rF E (max n m)).code rd sz c T C) λr=>Ki (rF E (max n m)) rd sz (.loop c) r)=_;rw[(Je E (iG n m)).code M,dY];exact(Je E (jL n m)).code h3
 |ret=>exact⟨n+1,.ret,T1,cm,by show (W ((rF E n).code rd sz c T C) λr=>Ki (rF E n) rd sz (.loop c) r)=_;rw[M,dY];rfl,O⟩
 |exit i=>exact⟨n+1,.exit i,T1,cm,by show (W ((rF E n).code rd sz c T C) λr=>Ki (rF E n) rd sz (.loop c) r)=_;rw[M,dY];rfl,O⟩
def ztT{a:Code}(hq:bV T q=some (.bool t))(M:t=true->Jc E rd sz a T C Q)(O:t=false->Jc E rd sz b T C Q):Jc E rd sz (.cond q a b) T C Q:=by
 have key:∀ n,(rF E (n+1)).code rd sz (.cond q a b) T C=bi t ((rF E n).code rd sz a T C) ((rF E n).code rd sz b T C):=by
  intro n;show (W (bV T q) λv=>W v.bool? λt=>bi t ((rF E n).code rd sz a T C) ((rF E n).code rd sz b T C))=_;rw[hq];rfl
 cases t with
 | true =>
   obtain⟨n,e,T1,cm,h3,h4⟩:=M rfl;exact⟨n+1,e,T1,cm,by rw[key];exact h3,h4⟩
 | false =>
   obtain⟨n,e,T1,cm,h3,h4⟩:=O rfl;exact⟨n+1,e,T1,cm,by rw[key];exact h3,h4⟩
theorem zpA{id:Nat}(h:Jc E rd sz c T C (Ex.inBlock id Q)):Jc E rd sz (.block id c) T C Q:=by
 obtain⟨n,e,T1,cm,M,O⟩:=h
 have key:(rF E (n+1)).code rd sz (.block id c) T C=Vn id (e,T1,cm):=by
  show (W ((rF E n).code rd sz c T C) λr=>Vn id r)=_;rw[M];rfl
 cases e with
 |normal=>exact⟨n+1,_,_,_,key,O⟩
 |ret=>exact⟨n+1,_,_,_,key,O⟩
 | exit i =>
   by_cases hi:i=id
   . refine⟨n+1,.normal,T1,cm,?_,by simpa [Ex.inBlock,hi]using O⟩;rw[key];show bi (Nat.beq i id) _ _=_
     grind [iO,beq_true]
   . refine⟨n+1,.exit i,T1,cm,?_,by simpa [Ex.inBlock,hi]using O⟩;rw[key];show bi (Nat.beq i id) _ _=_
     grind [iO,beq_true]
def Ro(E:Env)(sz:Nat)(ops l:Z Oper)(id:Nat)(T:PT V)(C:HS)(Q:PT V->HS->Prop):Prop:=∃ n T' a8,uO E (rF E n) sz ops l id T C=some (T',a8)/\Q T' a8
def X9{id:Nat}{ops:Z Oper}(h:Ro E sz ops ops C.n T { H:=C.H,n:=C.n+ops.length,log:=C.log } λT C=>Q .normal T C):Jc E rd sz (.region id ops.toArray false) T C Q:=by
 obtain⟨n,T1,cm,M,O⟩:=h;refine⟨n+1,.normal,T1,cm,?_,O⟩;show (W (bi false _ (uO E (rF E n) sz ops ops C.n T { H:=C.H,n:=C.n+dA ops,log:=C.log })) λr=>some (Ex.normal,r.1,r.2))=_;rw[gZ,dI,M];rfl
variable {ops:Z Oper}{id:Nat}{R:PT V->HS->Prop}
def zyD:Ro E sz ops [] id T C R=R T C:=propext ⟨λ⟨_,_,_,M,O⟩=>by cases M;exact O,λh=>⟨0,T,C,rfl,h⟩⟩
theorem Z4(h:∃ n r,vT E (rF E n) sz ops o id T C=some r/\Ro E sz ops l (id+1) r.1 r.2 R):Ro E sz ops (o::l) id T C R:=by
 obtain⟨n,⟨T1,cm⟩,M,m,T2,dt,O,h3⟩:=h;refine⟨max n m,T2,dt,?_,h3⟩;show (W (vT E (rF E (max n m)) sz ops o id T C) λr=>uO E (rF E (max n m)) sz ops l (id+1) r.1 r.2)=_;rw[Xk (Je E (iG n m)) M,dY];exact Tu (Je E (jL n m)) O
def put(sz:Nat)(T:PT V)(d:Y Tmp)(v:V)(K:PT V->Prop):Prop :=
 match d with
 |none=>K T
 |some d=>d<sz/\K (T.set d v)
def YR{v:V}{K:PT V->Prop}(h:put sz T d v K):∃ T',Kj sz T d v=some T'/\K T':=by
 cases d with
 |none=>exact⟨T,rfl,h⟩
 |some d=>exact⟨T.set d v,by show gd (Nat.blt d sz) _=_;rw[gz.2 h.1];rfl,h.2⟩
end
theorem zmS{fn:Func}{vs:Z V}{T:PT V}{K:V->HS->Prop}(hf:E.P.funcs[f]?=some fn)(hb:fn.body=some c)(he:jE fn.ntmps vs 0 .leaf=some T)
 (h:Jc E false fn.ntmps c T C λex T' a8=>(∀ i,ex≠.exit i)/\ok (MZ E.P T' a8 fn.results.toList) λl=>K (xO l) a8):∃ n v a8,(rF E n).call f vs C=some (v,a8)/\K v a8:=by
 obtain⟨n,ex,T',a8,M,O,l,h3,h4⟩:=h;refine⟨n+1,xO l,a8,?_,h4⟩;show (W (E.P.funcs[f]?) λfn=>W fn.body λc=>W (jE fn.ntmps vs 0 .leaf) λT=>W ((rF E n).code false fn.ntmps c T C) λr=>Uq E.P fn r)=_
 grind [dY,Uq]
structure vm where
 d:Option Tmp
 op:Op
 g:Option (Tmp×Bool)
structure SD where
 d:Option Tmp
 op:Op
 g:Option (Tmp×Bool)
 lk:List Nat
inductive SC where
 |draw (l:List SD) (bs:List Nat)
 |skip|ret
 |exit (id:Nat)
 |w7 (l:List vm)
 |seq (a b:SC)
 |cond (q:Operand) (a b:SC)
 |block (id:Nat) (a:SC)
 |loop (a:SC)
 |range (g:Operand) (ps:Array Tmp) (a b:SC)
def Lm (ops:Z Oper):Y (Nat×Bool)->Y (Y (Tmp×Bool))
 |none=>some none
 | some (j,w)=>match ops[j]? with
   | some p=>match p.dst with
     |some d=>some (some (d,w))
     |none=>none
   |none=>none
def dv (ops:Z Oper):Z Oper->Y (Z vm)
 | []=>some []
 | o::l=>match Lm ops o.guard,dv ops l with
   |some g,some r=>some (⟨o.dst,o.op,g⟩::r)
   |_,_=>none
def Lp (ops:Z Oper):Z Oper->Y (Z SD)
 | []=>some []
 | o::l=>match Lm ops o.guard,Lp ops l with
   |some g,some r=>some (⟨o.dst,o.op,g,looks ops o⟩::r)
   |_,_=>none
def aU:Code->Y SC
 | .region _ ops true=>match Lp ops.toList ops.toList,U1 ops.toList with
   |some l,some bs=>some (.draw l bs)
   |_,_=>none
 |.skip=>some .skip
 |.ret=>some .ret
 |.exit i=>some (.exit i)
 | .region _ ops false=>match dv ops.toList ops.toList with
   |some l=>some (.w7 l)
   |none=>none
 | .seq a b=>match aU a,aU b with
   |some a,some b=>some (.seq a b)
   |_,_=>none
 | .cond q a b=>match aU a,aU b with
   |some a,some b=>some (.cond q a b)
   |_,_=>none
 | .block i a=>match aU a with
   |some a=>some (.block i a)
   |none=>none
 | .loop a=>match aU a with
   |some a=>some (.loop a)
   |none=>none
 | .rangeFunc g ps a b=>match aU a,aU b with
   |some a,some b=>some (.range g ps a b)
   |_,_=>none
 |_=>none
section
variable {rd:Bool}{sz:Nat}{T:PT V}{Q:Ex->PT V->HS->Prop}
def V.lE (v:V)(w:Bool):Y Bool:=match v with
 |.bool b=>some b
 |.tuple []=>some (!w)
 |_=>none
def V.zBD(v:V)(w:Bool):Y Bool:=match v with
 |.bool b=>some (zZ b w)
 |.tuple []=>some false
 |_=>none
def V.pB {v:V}{w q:Bool}(h:v.lE w=some q):v.zBD w=some (zZ q w):=by
 unfold V.lE at h;split at h
 . cases h;rfl
 . cases h;cases w<;>rfl
 . cases h
def CE (E:Env) (id:Nat) (T:PT V) (C:HS) (op:Op) (K:V->HS->Prop):Prop :=
 match op with
 | .call c=>match c.callee with
   |.builtin b=>(dR op≠0->C.H.get id=none)/\ok (ku T c.args.toList) λvs=>ok (qF E.P C id b c.argTypes.toList vs) λr=>K r.1 r.2
   |.value x=>C.H.get id=none/\ok (bV T x) λv=>ok (funcOf v) λp=>ok (ku T c.args.toList) λvs=>ok (E.dE p.1 (jY vs p.2) C) λr=>K r.1 r.2
   |.invoke _ _=>False
 |op=>(dR op≠0->C.H.get id=none)/\ok (TP E.P false T C id (VI op)) λr=>K r.1 r.2
def wpS(E:Env)(id:Nat)(T:PT V)(C:HS)(s:vm)(K:V->HS->Prop):Prop :=
 match s.g with
 |none=>CE E id T C s.op K
 |some (t,w)=>ok (T.get t) λv=>ok (v.lE w) λq=>if q=w then CE E id T C s.op K else K oD C
def Rs(E:Env)(sz:Nat):Z vm->Nat->PT V->HS->(PT V->HS->Prop)->Prop
 | [],_,T,C,R=>R T C
 |s::l,id,T,C,R=>wpS E id T C s λv a8=>put sz T s.d v λT1=>Rs E sz l (id+1) T1 a8 R
def zlq {id:Nat} {op:Op} {K:V->HS->Prop} (h:CE E id T C op K):(dR op≠0->C.H.get id=none) /\
 ((qE op=none/\ok (TP E.P false T C id (VI op)) λr=>K r.1 r.2)\/(∃ c,qE op=some c/\ok (ku T c.args.toList) λvs =>
   (∃ b,c.callee=.builtin b/\ok (qF E.P C id b c.argTypes.toList vs) λr=>K r.1 r.2)\/∃ x f Bt,c.callee=.value x/\bV T x=some (.func f Bt)/\ok (E.dE f (jY vs Bt) C) λr=>K r.1 r.2)):=by
 unfold CE at h;split at h
 . rename_i c;split at h
   . rename_i b hb;exact⟨h.1,.inr ⟨c,rfl,wN h.2 λvs hv=>.inl ⟨b,hb,hv⟩⟩⟩
   . rename_i x hx;obtain⟨M,v,hv,p,hp,vs,fv,O⟩:=h;obtain⟨f,Bt⟩:=p
     have e:v=.func f Bt:=by
      unfold funcOf at hp;split at hp
      . cases hp;rfl
      . cases hp
     subst e;exact⟨λ_=>M,.inr ⟨c,rfl,vs,fv,.inr ⟨x,f,Bt,hx,hv,O⟩⟩⟩
   . exact h.elim
 . rename_i cb;refine⟨h.1,.inl ⟨?_,h.2⟩⟩;cases op<;>first|rfl|exact absurd rfl (cb _)
theorem zrl {ops:Z Oper} {id:Nat}   {K:PT V->HS->Prop} {q:Bool} (hw:xy ops T o=some q)
 (h:if q=true then CE E id T C o.op (λv a8=>put sz T o.dst v λT1=>K T1 a8)else put sz T o.dst oD λT1=>K T1 C) :
 ∃ r,vT E (rF E n) sz ops o id T C=some r/\K r.1 r.2:=by
 cases q with
 | false =>
   rw[if_neg (by simp)]at h;obtain⟨T1,h4,h5⟩:=YR h;refine⟨(T1,C),?_,h5⟩;show (W (xy ops T o) λw=>bi w _ _)=_;rw[hw,dY,gZ,h4];rfl
 | true =>
   rw[if_pos rfl]at h;obtain⟨M,O⟩:=zlq h
   have hv:bi (Nat.beq (dR o.op) 0) true (ig C id)=true:=by
    grind [iO,aJ,beq_true]
   have fin:∀ r:V×HS,cp E (rF E n) false T C id o=some r->(put sz T o.dst r.1 λT1=>K T1 r.2)->∃ r,vT E (rF E n) sz ops o id T C=some r/\K r.1 r.2:=by
    intro r eC hp;obtain⟨T1,h4,h5⟩:=YR hp;refine⟨(T1,r.2),?_,h5⟩;show (W (xy ops T o) λw=>bi w _ _)=_
    grind [dY,iL,qY]
   rcases O with⟨hc,r,O,h3⟩|⟨c,hc,vs,fv,O⟩
   . exact fin r (by unfold cp;rw[hc];exact O) h3
   . rcases O with⟨b,hb,r,O,h3⟩|⟨x,f,Bt,hx,hxv,r,O,h3⟩
     . refine fin r ?_ h3;unfold cp;rw[hc];show (W (ku T c.args.toList) λvs=>_)=_
       grind [dY]
     . refine fin r ?_ h3;unfold cp;rw[hc];show (W (ku T c.args.toList) λvs=>_)=_
       grind [dY,W,bV,Lf,rF,FL,jY,lJ]
theorem zpu {ops:Z Oper}:∀ {l:Z Oper} {s:Z vm} {id:Nat} {T:PT V} {C:HS} {R:PT V->HS->Prop},dv ops l=some s->Rs E sz s id T C R->Ro E sz ops l id T C R:=by
 intro l
 induction l with
 | nil =>
   intro s id T C R h hr;cases h;rw[zyD];exact hr
 | cons o l ih =>
   intro s id T C R h hr;unfold dv at h;split at h
   . rename_i g r hg hl;cases h;have C6:wpS E id T C ⟨o.dst,o.op,g⟩ λv a8=>put sz T o.dst v λT1=>Rs E sz r (id+1) T1 a8 R:=hr
     unfold wpS at C6
     have eC:∃ q,xy ops T o=some q/\(if q=true then CE E id T C o.op (λv a8=>put sz T o.dst v λT1=>Rs E sz r (id+1) T1 a8 R)else put sz T o.dst oD λT1=>Rs E sz r (id+1) T1 C R):=by
      unfold Lm at hg;split at hg
      . rename_i cV;cases hg;refine⟨true,?_,by rw[if_pos rfl];exact C6⟩;unfold xy;rw[cV];rfl
      . rename_i j w cV;split at hg
        . rename_i p hp;split at hg
          . rename_i d hd;cases hg;obtain⟨v,hv,q,hq,O⟩:=C6;refine⟨zZ q w,?_,?_⟩
            . unfold xy;rw[cV,lJ];show (W (vQ ops j) λp=>_)=_;rw[sI,hp,dY,hd,dY,hv,dY];exact V.pB hq
            . by_cases e:q=w
              . rw[if_pos e]at O;rw[if_pos (by rw[e];cases w<;>rfl)];exact O
              . rw[if_neg e]at O;rw[if_neg (by revert e;cases w<;>cases q<;>simp[zZ,bi,nt])];exact O
          . cases hg
        . cases hg
     obtain⟨q,hw,h3⟩:=eC;obtain⟨r1,h4,h5⟩:=zrl (n:=0) hw h3
     grind [Z4]
   . cases h
def Js(E:Env)(rd:Bool)(sz:Nat)(s:SC)(T:PT V)(C:HS)(Q:Ex->PT V->HS->Prop):Prop:=∀ c,aU c=some s->Jc E rd sz c T C Q
def zhS{s:SC}{Q':Ex->PT V->HS->Prop}(h:Js E rd sz s T C Q)(hq:∀ e T C,Q e T C->Q' e T C):Js E rd sz s T C Q':=λc hc=>Oh (h c hc) hq
theorem jf{s:SC}(h:aU c=some s):match s with
 |.draw l bs=>∃ id ops,c=.region id ops true/\Lp ops.toList ops.toList=some l/\U1 ops.toList=some bs
 |.skip=>c=.skip
 |.ret=>c=.ret
 |.exit i=>c=.exit i
 |.w7 l=>∃ id ops,c=.region id ops false/\dv ops.toList ops.toList=some l
 |.seq a b=>∃ x y,c=.seq x y/\aU x=some a/\aU y=some b
 |.cond q a b=>∃ x y,c=.cond q x y/\aU x=some a/\aU y=some b
 |.block i a=>∃ x,c=.block i x/\aU x=some a
 |.loop a=>∃ x,c=.loop x/\aU x=some a
 |.range g ps a b=>∃ x y,c=.rangeFunc g ps x y/\aU x=some a/\aU y=some b:=by
 cases c with
 |skip=>cases h;rfl
 |ret=>cases h;rfl
 |exit i=>cases h;rfl
 | region id ops draw =>
   cases draw with
   | true =>
     grind [aU,id]
   | false =>
     grind [aU,id]
 | seq x y =>
   grind [aU]
 | cond q x y =>
   grind [aU]
 | block i x =>
   grind [aU]
 | rangeFunc g ps x y =>
   grind [aU]
 | loop x =>
   grind [aU]
 |_=>cases h
def Z6(h:Q .normal T C):Js E rd sz .skip T C Q:=λc hc=>by have e:c=.skip:=jf hc;rw[e];exact ztQ h
def zpz(h:Q .ret T C):Js E rd sz .ret T C Q:=λc hc=>by have e:c=.ret:=jf hc;rw[e];exact zyI h
def zhU(h:Q (.exit i) T C):Js E rd sz (.exit i) T C Q:=λc hc=>by have e:c=.exit i:=jf hc;rw[e];exact ztS h
def JH{a b:SC}(h:Js E rd sz a T C (Ex.then (λT C=>Js E rd sz b T C Q) Q)):Js E rd sz (.seq a b) T C Q:=λc hc=>by
 obtain⟨x,y,rfl,hx,hy⟩:=jf hc;refine zyH (Oh (h x hx) λe T C he=>?_)
 cases e with
 |normal=>exact he y hy
 |ret=>exact he
 |exit i=>exact he
def Og{a b:SC}(hq:bV T q=some (.bool t))(M:t=true->Js E rd sz a T C Q)(O:t=false->Js E rd sz b T C Q):Js E rd sz (.cond q a b) T C Q:=λc hc=>by
 obtain⟨x,y,rfl,hx,hy⟩:=jf hc;exact ztT hq (λh=>M h x hx) (λh=>O h y hy)
def VG{id:Nat}{a:SC}(h:Js E rd sz a T C (Ex.inBlock id Q)):Js E rd sz (.block id a) T C Q:=λc hc=>by
 obtain⟨x,rfl,hx⟩:=jf hc;exact zpA (h x hx)
def zhT{a:SC}(h:Js E rd sz a T C (Ex.then (λT C=>Js E rd sz (.loop a) T C Q) Q)):Js E rd sz (.loop a) T C Q:=λc hc=>by
 obtain⟨x,rfl,hx⟩:=jf hc;refine ztR (Oh (h x hx) λe T C he=>?_)
 cases e with
 |normal=>exact he _ hc
 |ret=>exact he
 |exit i=>exact he
def PW{l:Z vm}(h:Rs E sz l C.n T { H:=C.H,n:=C.n+l.length,log:=C.log } λT C=>Q .normal T C):Js E rd sz (.w7 l) T C Q:=λc hc=>by
 obtain⟨id,ops,rfl,hl⟩:=jf hc
 have hlen:∀ {m:Z Oper} {s:Z vm},dv ops.toList m=some s->s.length=m.length:=by
  intro m
  induction m with
  |nil=>intro s h;cases h;rfl
  | cons o m ih =>
    intro s h;unfold dv at h;split at h
    . rename_i g r hg hr;cases h;simp[ih hr]
    . cases h
 rw[hlen hl]at h;have:=X9 (id:=id) (rd:=rd) (Q:=Q) (zpu hl h);simpa using this
def zls (E:Env) (id:Nat) (T:PT V) (C:HS) (op:Op) (K:V->HS->Z Nat×Z Nat->Prop):Prop :=
 match dR op with
 | 0 => match op with
   | .call c=>match c.callee with
     |.builtin b=>ok (ku T c.args.toList) λvs=>ok (qF E.P { H:=iA C.H (cN T op),n:=0,log:=[] } id b c.argTypes.toList vs) λr=>K r.1 C (cN T op,[])
     |_=>False
   |op=>ok (TP E.P true T { H:=iA C.H (cN T op),n:=0,log:=[] } id (VI op)) λr=>K r.1 C (cN T op,[])
 | 1=>C.H.get id=none/\ok (TP E.P true T { H:=.leaf,n:=0,log:=[] } id (VI op)) λr=>ok (r.2.H.get id) λo'=>o'.fz=false/\K r.1 (C.put id o') ([id],[])
 | _ => C.H.get id=none/\(match op with
   | .call c=>match c.callee with
     |.builtin b=>ok (ku T c.args.toList) λvs=>ok (qF E.P { H:=C.H,n:=C.n,log:=[] } id b c.argTypes.toList vs) λr=>K r.1 { H:=r.2.H,n:=r.2.n,log:=jY r.2.log C.log } ([],r.2.log)
     |.value x=>ok (bV T x) λv=>ok (funcOf v) λp=>ok (ku T c.args.toList) λvs=>ok (E.dE p.1 (jY vs p.2) { H:=C.H,n:=C.n,log:=[] }) λr=>K r.1 { H:=r.2.H,n:=r.2.n,log:=jY r.2.log C.log } ([],r.2.log)
     |.invoke _ _=>False
   |op=>ok (TP E.P true T { H:=C.H,n:=C.n,log:=[] } id (VI op)) λr=>K r.1 { H:=r.2.H,n:=r.2.n,log:=jY r.2.log C.log } ([],r.2.log))
def Om(E:Env)(id:Nat)(T:PT V)(C:HS)(op:Op)(K:V->HS->Z Nat×Z Nat->Prop):Prop :=
 match op with
 |.store t a x=>C.H.get id=none/\ok (nz E.P T { H:=iA C.H (rX T C (.store t a x)),n:=0,log:=[] } t a x) λr=>K r.1 { H:=II C.H r.2.H (rX T C (.store t a x)),n:=C.n,log:=jY r.2.log C.log } (rX T C (.store t a x),r.2.log)
 |op=>zls E id T C op K
def S8(E:Env)(id:Nat)(T:PT V)(C:HS)(s:SD)(K:V->HS->Z Nat×Z Nat->Prop):Prop :=
 match s.g with
 |none=>Om E id T C s.op K
 |some (t,w)=>ok (T.get t) λv=>ok (v.lE w) λq=>if q=w then Om E id T C s.op K else K oD C ([],[])
def Rd(E:Env)(sz:Nat):Z SD->Nat->PT V->HS->Z (Z Nat×Z Nat)->(PT V->HS->Z (Z Nat×Z Nat)->Prop)->Prop
 | [],_,T,C,acc,R=>R T C acc
 |s::l,id,T,C,acc,R=>S8 E id (iA T s.lk) C s λv a8 rw=>put sz T s.d v λT1=>Rd E sz l (id+1) T1 a8 (jY acc [rw]) R
def zlr {id:Nat}   {K:V->HS->Z Nat×Z Nat->Prop} (h:zls E id T C o.op K):∃ r,zX E (rF E n) o id T C=some r/\K r.1 r.2.1 r.2.2:=by
 unfold zls at h
 have ee:∀ {eM:HS} {c:Call} {b:Builtin} {vs:Z V} {r:V×HS},qE o.op=some c->c.callee=.builtin b->ku T c.args.toList=some vs->qF E.P eM id b c.argTypes.toList vs=some r->cp E (rF E n) true T eM id o=some r:=by
  intro eM c b vs r M O h3 h4;unfold cp;rw[M];show (W (ku T c.args.toList) λvs=>_)=_;rw[h3,dY,O];exact h4
 have mc:∀ {eM:HS} {r:V×HS},qE o.op=none->TP E.P true T eM id (VI o.op)=some r->cp E (rF E n) true T eM id o=some r:=by
  intro eM r M O;unfold cp;rw[M];exact O
 have fy:∀ {op:Op},(∀ c,op≠.call c)->qE op=none:=by
  intro op h;cases op<;>first|rfl|exact absurd rfl (h _)
 split at h
 . rename_i hc
   have key:∀ r:V×HS,cp E (rF E n) true T { H:=iA C.H (cN T o.op),n:=0,log:=[] } id o=some r->zX E (rF E n) o id T C=some (r.1,C,cN T o.op,[]):=by
    intro r hr;unfold zX;rw[hc];show (W (cp E (rF E n) true T { H:=iA C.H (cN T o.op),n:=0,log:=[] } id o) λr=>some (r.1,C,cN T o.op,[]))=_;rw[hr];rfl
   split at h
   . rename_i c td;split at h
     . rename_i b hb;obtain⟨vs,fv,r,hr,hk⟩:=h;have sT:qE o.op=some c:=by rw[td];rfl
       exact⟨_,key r (ee sT hb fv hr),hk⟩
     . exact h.elim
   . rename_i cb;obtain⟨r,hr,hk⟩:=h;exact⟨_,key r (mc (fy cb) hr),hk⟩
 . rename_i hc;obtain⟨h0,r,hr,o',ho,hz,hk⟩:=h;refine⟨(r.1,C.put id o',[id],[]),?_,hk⟩;unfold zX;rw[hc];show (gd (ig C id) (W (cp E (rF E n) true T { H:=.leaf,n:=0,log:=[] } id o) λr=>W (r.2.H.get id) λo'=>gd (nt o'.fz) (some (r.1,C.put id o',[id],[]))))=_;rw[aJ.2 h0,qY,mc (QT hc) hr,dY,ho,dY,hz];rfl
 . rename_i vd B1;obtain⟨h0,h⟩:=h
   have hc:dR o.op=2:=by
    rcases TQ o.op with h|h|h
    . exact absurd h vd
    . exact absurd h B1
    . exact h
   have key:∀ r:V×HS,cp E (rF E n) true T { H:=C.H,n:=C.n,log:=[] } id o=some r->zX E (rF E n) o id T C=some (r.1,{ H:=r.2.H,n:=r.2.n,log:=jY r.2.log C.log },[],r.2.log):=by
    intro r hr;unfold zX;rw[hc];show (gd (ig C id) (W (cp E (rF E n) true T { H:=C.H,n:=C.n,log:=[] } id o) λr=>some (r.1,({ H:=r.2.H,n:=r.2.n,log:=jY r.2.log C.log }:HS),([]:Z Nat),r.2.log)))=_;rw[aJ.2 h0,qY,hr];rfl
   split at h
   . rename_i c td;have sT:qE o.op=some c:=by rw[td];rfl
     split at h
     . rename_i b hb;obtain⟨vs,fv,r,hr,hk⟩:=h;exact⟨_,key r (ee sT hb fv hr),hk⟩
     . rename_i x hx;obtain⟨v,hv,p,hp,vs,fv,r,hr,hk⟩:=h;obtain⟨f,Bt⟩:=p
       have e:v=.func f Bt:=by
        unfold funcOf at hp;split at hp
        . cases hp;rfl
        . cases hp
       subst e;refine⟨_,key r ?_,hk⟩;unfold cp;rw[sT];show (W (ku T c.args.toList) λvs=>_)=_;rw[fv,dY,hx];show (W (bV T x) λv=>Lf E (rF E n) v vs _)=_;rw[hv,dY];show FL E (rF E n) f (jY vs Bt) _=some r;unfold FL;rw[hr,lJ]
     . exact h.elim
   . rename_i cb;obtain⟨r,hr,hk⟩:=h;exact⟨_,key r (mc (fy cb) hr),hk⟩
theorem zgc{id:Nat}{K:V->HS->Z Nat×Z Nat->Prop}(h:Om E id T C o.op K):∃ r,Aj E (rF E n) o id T C=some r/\K r.1 r.2.1 r.2.2:=by
 unfold Om at h;unfold Aj;split at h
 . rename_i t a x mc;obtain⟨h0,r,hr,hk⟩:=h;have eM:lF o.op=true:=by rw[mc];rfl
   rw[eM,iL];unfold Pt;rw[aJ.2 h0,qY,mc,Ar mc,hr,dY]
   grind
 . rename_i cb
   have eM:lF o.op=false:=by
    simp[lF]
   rw[eM,gZ];exact zlr h
theorem zFs {ops:Z Oper} :∀ {l:Z Oper} {s:Z SD} {id:Nat} {T:PT V} {C:HS} {acc:Z (Z Nat×Z Nat)} {R:PT V->HS->Z (Z Nat×Z Nat)->Prop},Lp ops l=some s->Rd E sz s id T C acc R ->
 ∃ T' a8 kA,wL E (rF E n) sz ops l id T C acc=some ((T',a8),kA)/\R T' a8 kA:=by
 intro l
 induction l with
 | nil =>
   intro s id T C acc R h hr;cases h;exact⟨T,C,acc,rfl,hr⟩
 | cons o l ih =>
   intro s id T C acc R h hr;unfold Lp at h;split at h
   . rename_i g r hg hl;cases h;have C6:S8 E id (iA T (looks ops o)) C ⟨o.dst,o.op,g,looks ops o⟩ λv a8 rw=>put sz T o.dst v λT1=>Rd E sz r (id+1) T1 a8 (jY acc [rw]) R:=hr
     unfold S8 at C6
     have eC:∃ q,kR E (rF E n) ops o id (iA T (looks ops o)) C=some q/\put sz T o.dst q.1 λT1=>Rd E sz r (id+1) T1 q.2.1 (jY acc [q.2.2]) R:=by
      unfold Lm at hg;split at hg
      . rename_i cV;cases hg;obtain⟨q,M,O⟩:=zgc (n:=n) C6;refine⟨q,?_,O⟩;have hw:xy ops (iA T (looks ops o)) o=some true:=by unfold xy;rw[cV];rfl
        grind [kR,dY,iL]
      . rename_i j w cV;split at hg
        . rename_i p hp;split at hg
          . rename_i d hd;cases hg;obtain⟨v,hv,q,hq,O⟩:=C6
            have hw:xy ops (iA T (looks ops o)) o=some (zZ q w):=by
             unfold xy;rw[cV,lJ];show (W (vQ ops j) λp=>_)=_;rw[sI,hp,dY,hd,dY,hv,dY];exact V.pB hq
            by_cases e:q=w
            . rw[if_pos e]at O;obtain⟨q1,h3,h4⟩:=zgc (n:=n) O;refine⟨q1,?_,h4⟩;unfold kR;rw[hw,dY,show zZ q w=true by rw[e];cases w<;>rfl,iL];exact h3
            . rw[if_neg e]at O;refine⟨(oD,C,[],[]),?_,O⟩;unfold kR;rw[hw,dY,show zZ q w=false by revert e;cases w<;>cases q<;>simp[zZ,bi,nt],gZ]
          . cases hg
        . cases hg
     obtain⟨q,M,O⟩:=eC;obtain⟨T1,h3,h4⟩:=YR O;obtain⟨T',a8,kA,h5,h6⟩:=ih hl h4;refine⟨T',a8,kA,?_,h6⟩;show (W (kR E (rF E n) ops o id (iA T (looks ops o)) C) λr=>W (Kj sz T o.dst r.1) λT'=>wL E (rF E n) sz ops l (id+1) T' r.2.1 (jY acc [r.2.2]))=_
     grind [dY]
   . cases h
def zhV{l:Z SD}(h:Rd E sz l C.n T { H:=C.H,n:=C.n+l.length,log:=C.log } [] λT C acc=>wG acc acc 0 bs=true/\Q .normal T C):Js E rd sz (.draw l bs) T C Q:=λc hc=>by
 obtain⟨id,ops,rfl,hl,hb⟩:=jf hc
 have hlen:∀ {m:Z Oper} {s:Z SD},Lp ops.toList m=some s->s.length=m.length:=by
  intro m
  induction m with
  |nil=>intro s h;cases h;rfl
  | cons o m ih =>
    intro s h;unfold Lp at h;split at h
    . rename_i g r hg hr;cases h;simp[ih hr]
    . cases h
 rw[hlen hl]at h;obtain⟨T',a8,kA,M,O,h3⟩:=zFs (n:=0) hl h;refine⟨1,.normal,T',a8,?_,h3⟩;show (W (bi true (QI E (rF E 0) sz ops.toList T C) _) λr=>some (Ex.normal,r.1,r.2))=_;rw[iL]
 have hd:QI E (rF E 0) sz ops.toList T C=some (T',a8):=by
  show (W (U1 ops.toList) λbs=>W (wL E (rF E 0) sz ops.toList ops.toList C.n T { H:=C.H,n:=C.n+dA ops.toList,log:=C.log } []) λr=>gd (wG r.2 r.2 0 bs) (some r.1))=_;rw[hb,dY,dI,M,dY,O,qY]
 rw[hd];rfl
end
def ziL{fn:Func}{s:SC}{vs:Z V}{T:PT V}{K:V->HS->Prop}(hf:E.P.funcs[f]?=some fn)(hb:fn.body.bind aU=some s)(he:jE fn.ntmps vs 0 .leaf=some T)
 (h:Js E false fn.ntmps s T C λex T' a8=>(∀ i,ex≠.exit i)/\ok (MZ E.P T' a8 fn.results.toList) λl=>K (xO l) a8):∃ n v a8,(rF E n).call f vs C=some (v,a8)/\K v a8:=by
 cases hc:fn.body with
 |none=>rw[hc]at hb;cases hb
 |some c=>rw[hc]at hb;exact zmS hf hc he (h c hb)
def Leaves(P:Program)(fn:Func)(K:V->HS->Prop)(ex:Ex)(T:PT V)(C:HS):Prop:=(∀ i,ex≠.exit i)/\ok (MZ P T C fn.results.toList) λl=>K (xO l) C
def VF{fn:Func}{K:V->HS->Prop}{T:PT V}:Leaves P fn K .ret T C=ok (MZ P T C fn.results.toList) λl=>K (xO l) C :=
 propext ⟨λh=>h.2,λh=>⟨λi h=>(by cases h),h⟩⟩
def Ld{fn:Func}{K:V->HS->Prop}{T:PT V}:Leaves P fn K .normal T C=ok (MZ P T C fn.results.toList) λl=>K (xO l) C :=
 propext ⟨λh=>h.2,λh=>⟨λi h=>(by cases h),h⟩⟩
end Go.J
