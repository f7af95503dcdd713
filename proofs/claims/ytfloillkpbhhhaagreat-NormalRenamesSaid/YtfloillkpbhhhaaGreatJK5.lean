import Derived.Test.YtfloillkpbhhhaaGreatJK4
import Derived.Below
import Derived.ChangeArms
set_option linter.all false
noncomputable section
namespace Go.J
variable {K:Act->World->Prop}{a:Addr}{cQ:Array Bool}{ps:Array Tmp}{tm:Array Value}{dr t:Bool}{b c:Code}{Rp:Ending->World->Prop}{E:Env}{ev:Ev}{Q:Exit->Act->World->Prop}{f:FuncId}{C eR:HS}{N i n r:Nat}{μ μ0:Nat->Nat->Y MI}{F F0 X:Nat->Prop}{o:Oper}{g q:Operand}{P:Program}{α:Type}{x:Value}{w0:World}{ds:Y (Z Deferred)}{pd:Y Code}{d:Y Tmp}{bs:Z Nat}{l:Z Oper}{S:Z TypeId}
section
variable {I:Nat->Value}{sz:Nat}{ops:Array Oper}{xM:Nat}{Ts:Nat->PT V}{cf:Nat->HS}{vs:Nat->V}{rs ws:Nat->Z Nat}{B:Nat->Nat->Prop}{N:NB}
    {G0:Nat->Y Obj} {AN:Nat}
theorem zqL(tr:Tr E ev sz ops.toList xM Ts cf vs rs ws B)(cd:cQ.size=ops.size)(h:Region.ready .any ops cQ=[]):∀ j,j<ops.toList.length->cQ.getD j false=true:=by
 intro j
 induction j using Nat.strongRecOn with
 | _ j ih =>
   intro hj;refine aY λcg=>?_;have ho:ops.toList[j]?=some ops.toList[j]:=az hj;have cG:j<cQ.size:=(by rw[cd];simpa using hj);have hf:cQ.getD j true=false:=(by grind);have hm:j∈Region.ready .any ops cQ:=(by refine mem_ready.2 ⟨hf,ops.toList[j],by rw[<- gy];exact ho,λe he hb=>?_⟩;have:=tr.on j _ ho e (by simpa using he) hb;grind);grind
theorem any_ok (hρ:Good I) (aq:bK I E) (cH:TE I E ev) (tr:Tr E ev sz ops.toList xM Ts cf vs rs ws B) (hX:∀ i,xM<=i->¬ X i) (hn:xM+ops.toList.length<=(cf 0).n) (hO:pP X (cf ops.toList.length)) (cd:sz<=AN)
 {r:Y Nat}  (hQ:∀ a' w' F' μ',R I w' F' μ' E.P (cf ops.toList.length)->kR I w' F' μ' (Ts ops.toList.length) a'.tmps->a'.tmps.size=AN->Marks N w' a'.defers ->
   B2 w0 F0 μ0 G0 w' F' μ' (cf ops.toList.length).H.get->Q .normal a' w'):∀ (fuel:Nat) (cQ:Array Bool) (a:Act) (w:World),cQ.size=ops.size->cQ.toList.count false<=fuel ->
   (∃ F μ,Inv I E ops Ts cf B X N w0 F0 μ0 G0 AN (λi=>cQ.getD i false=true) a w F μ)->wpAnyIn (Wr r) 0 E.P .any ops Q fuel cQ a w:=by
 have cM:∀ (cQ:Array Bool) (a:Act) (w:World),cQ.size=ops.size->(∃ F μ,Inv I E ops Ts cf B X N w0 F0 μ0 G0 AN (λi=>cQ.getD i false=true) a w F μ) ->
  Region.ready .any ops cQ=[]->Q .normal a w:=by
  rintro cQ a w hl ⟨F,μ,inv⟩ hr;have b7:=zqL tr hl hr;have rg:=inv.rg;have fr:=inv.fr;have e:Gk cf (λi=>cQ.getD i false=true) ops.toList.length=(cf ops.toList.length).H.get:=by grind [id,zja]
  rw[e]at rg fr;refine hQ a w F μ (rg.toR λid o h=>.inr h) (λt v hv=>?_) inv.size inv.marks fr;refine inv.tmp t ops.toList.length v (af _) (λi o hi _ _=>b7 i hi) (λi o hi ho _ _=>?_) hv;grind
 intro fuel
 induction fuel with
 | zero =>intro cQ a w hl hc hinv;have ft:Region.ready .any ops cQ=[]:=(by refine List.eq_nil_iff_forall_not_mem.2 λi hi=>?_;let⟨M,_⟩:=mem_ready.1 hi;have cG:i<cQ.size:=jN λh=>(by simp[h]at M);have hm:false∈cQ.toList:=(by have O:cQ[i]=false:=(by simpa [cG]using M);grind);grind);exact⟨ft,cM cQ a w hl hinv ft⟩
 | succ fuel ih =>
   rintro cQ a w hl hc ⟨F,μ,inv⟩;refine⟨λhr=>cM cQ a w hl ⟨F,μ,inv⟩ hr,λj hj=>?_⟩;let⟨M,o,ho,b7⟩:=mem_ready.1 hj;have cG:j<cQ.size:=jN λh=>(by simp[h]at M);have zy7:cQ.getD j false=false:=(by simpa [cG]using M);have im:ops.toList[j]?=some o:=(by simpa using ho);have CM:j<ops.toList.length:=(aM.1 im).1;refine inv.step hρ aq cH tr hX hn hO cd CM (by rw[zy7];simp) (λi hb=>?_) ?_;let⟨e,he,hbe,h⟩:=tr.zQU j i o im hb;have O:=b7 e (by simpa using he) hbe;rcases h with rfl|h;exact O;exact inv.down i e.on O h;intro a' w' F' μ' zLz;have eS:(λi=>cQ.getD i false=true\/i=j)=λi=>(cQ.setIfInBounds j true).getD i false=true:=(by funext i;by_cases e:i=j;simp_all;rw[getD_set_ne false (Ne.symm e)];simp[e]);refine ih _ a' w' (by simpa using hl) ?_ ⟨F',μ',eS ▸ zLz⟩;have h3:cQ.toList[j]?=some false:=(by simp_all);grind
theorem zuu(hρ:Good I)(aq:bK I E)(cH:TE I E ev)(hP:E.P.follows .mixedOrders=true){r:Y Nat}{T T':PT V}{a9:HS}{w:World}{a:Act}{id:Nat}
 (h:R4 E ev sz ops.toList T C=some (T',a9)) (hR:R I w F μ E.P C) (hD:Py X μ C) (hO:pP X a9) (hT:kR I w F μ T a.tmps) (cd:sz<=a.tmps.size) (hM:Marks N w a.defers)
 (hQ:∀ a' w' F' μ',R I w' F' μ' E.P a9->kR I w' F' μ' T' a'.tmps->a'.tmps.size=a.tmps.size->Marks N w' a'.defers->Fr w F μ C w' F' μ' a9->Q .normal a' w'):(Code.region id ops true).wpIn (Wr r) 0 E.P Q a w:=by
 let⟨Ts,cf,vs,rs,ws,B,tr,e1,e2,e3,e4⟩:=zdB h;refine wpIn_region_any hP ?_;have Gv:R I { w with drawn:=w.drawn+1 } F μ E.P C:=hR.grow (af _) (λ_ _=>rfl)
 have pB:B2 w F μ C.H.get { w with drawn:=w.drawn+1 } F μ C.H.get :=
  ⟨⟨rfl,rfl,rfl⟩,af _,λ_ _ _=>rfl,λ_ h=>h,λ_ h=>.inl h,λ_ _ _ h=>h,λ_ h=>.inl h,λ_ h=>h,λ_ _ _=>rfl,λ_ _ h=>h,λid g m h=>.inr ⟨id,g,m,h,rfl⟩⟩
 have eK:Gk cf (λi=>(Array.replicate ops.size false).getD i false=true) ops.toList.length=C.H.get:=by
  have:(λi=>(Array.replicate ops.size false).getD i false=true)=λ_=>False:=by funext i;by_cases h:i<ops.size<;>simp[h]
  rw[this];funext id;rw[EX (j:=0) (aZ _) λ_ _ _ _ h=>h];show (cf 0).H.get id=_;rw[e2]
 have HD:∀ i,¬ (Array.replicate ops.size false).getD i false=true:=by intro i;by_cases h:i<ops.size<;>simp[h]
 refine any_ok (N:=N) (w0:=w) (F0:=F) (μ0:=μ) (G0:=C.H.get) (AN:=a.tmps.size) hρ aq cH tr hD.2 (by rw[e2];exact af _) (by rw[e4];exact hO) cd ?_ ops.size _ a _ (by simp) (by simp) ⟨F,μ,?_⟩;intro a' w' F' μ' g1 g2 g3 g4 g5;rw[e4]at g1 g5;rw[e3]at g2;exact hQ a' w' F' μ' g1 g2 g3 g4 g5.zKA;refine⟨λi k hk=>absurd hk (HD k),by rw[eK];exact Gv.zPa,by rw[eK];exact pB,λid g hg=>by rw[eK];exact hD.1 id g hg,?_,rfl,hM⟩;intro t k v hk M O hv;have eR:=tr.zbW (m:=0) (k:=k) (aZ _) hk (t:=t) (λi o _ hi ho hd=>absurd (M i o hi ho hd) (HD i));rw[eR,e1]at hv;let⟨x,W,hr⟩:=hT t v hv;exact⟨x,W,hr.mono I (λ_ h=>h) (λ_ _=>rfl) (λ_ _ _ h=>h)⟩
end
section
variable {I:Nat->Value}{T T':PT V}{a9:HS}
theorem zcg{rd:Bool}{sz:Nat}{q:Ex×PT V×HS}{ex:Ex}(h:KT ev rd sz b q=some (ex,T',a9)) :
 (q.1=.normal/\ev.code rd sz b q.2.1 q.2.2=some (ex,T',a9))\/(q.1≠.normal/\q=(ex,T',a9)):=by
 unfold KT at h;grind
theorem zhu{e:Ex}{a:Act}{w:World}(cg:e≠.normal)(h:Q (zpR e) a w):Exit.then K Q (zpR e) a w:=by
 cases e with
 |normal=>exact absurd rfl cg
 |ret=>exact h
 |exit id=>exact h
def zge {w:World}     (hR:R I w F μ P C) (hD:Py X μ C) (nN:C.H.get C.n=none) {sz:Nat} {tmps:Array Value} (hT:kR I w F μ T tmps) (cd:sz<=tmps.size)
 (fn:FuncId) (ps:Array Tmp) (assign body:Code):∃ l w1 μ',(Instr.enterLoop fn tmps ps assign body none).run P w=.ok (l,[{ target:=.collected w.heap.size,args:=#[] }]) w1 /\
   R I w1 F μ' P (HS.put { H:=C.H,n:=C.n+1,log:=C.log } C.n (.lp sz T ps.toList assign body 0))/\Fr w F μ C w1 F μ' (HS.put { H:=C.H,n:=C.n+1,log:=C.log } C.n (.lp sz T ps.toList assign body 0)) /\
   (∃ m,μ' C.n 0=some m/\m.b=l)/\w1.heap[w.heap.size]?=some (.deferred (some [])):=by
 let L:Loop:={ state:=.ready,pending:=none,fn:=fn,tmps:=tmps,params:=ps,assign:=assign,body:=body,defers:=w.heap.size };let w1:World:=qW w (.deferred (some []));let w2:World:=qW w1 (.loop L);have dg:(Instr.enterLoop fn tmps ps assign body none).run P w=.ok (w1.heap.size,[{ target:=.collected w.heap.size,args:=#[] }]) w2:=by simp[Instr.enterLoop];exact⟨(ou ..).symm,rfl⟩
 have cp:w1.heap.size=w.heap.size+1:=ou ..;have ea:w2.heap.size=w1.heap.size+1:=ou ..;have hold:∀ b,b<w.heap.size->w2.heap[b]?=w.heap[b]?:=λb hb=>by rw[qE w1 _ (by omega),qE w _ hb]
 let m:MI:={ b:=w1.heap.size,size:=0,total:=0 }
 let⟨k1,k2⟩:=hR.alloc (w':=w2) (a9:=HS.put { H:=C.H,n:=C.n+1,log:=C.log } C.n (.lp sz T ps.toList assign body 0)) nN (hD.free (hD.2 _ (af _)) nN).2 (o:=.lp sz T ps.toList assign body 0) rfl rfl (m:=m)
  (show w.heap.size<=w1.heap.size by omega) (show w1.heap.size<w2.heap.size by omega) hold (λk=>mJ ..) (by
    intro m' eW;have e:m'=m:=(by rw[c8]at eW;exact(bT eW).symm);subst e;refine⟨⟨L,uT ..,⟨rfl,rfl⟩,rfl,rfl,rfl,λt v hv=>?_,cd⟩,λhF=>?_⟩;let⟨x,W,hr⟩:=hT t v hv;refine⟨x,W,hr.mono I (λ_ h=>h) (λb hb=>hold b (hR.BR b hb)) (λi g m' hm=>?_)⟩;rw[kE];exact hm;rintro ⟨rfl,rfl⟩;rw[(hD.free (hD.2 _ (af _)) nN).2]at hm;cases hm;have:=hR.BR _ hF;have e:m.b=w1.heap.size:=rfl
    omega)
 exact⟨_,w2,_,dg,k1,k2,⟨m,c8 ..,rfl⟩,by rw[qE w1 _ (by omega)];exact uT ..⟩
def w8{w:World}{l:Nat}{r:Loop}(h:w.heap[l]?=some (.loop r))(C:r.state=.ready\/r.state=.done)(hp:r.pending=pd) :
 (Instr.endLoop l).run P w=.ok pd { w with heap:=w.heap.setIfInBounds l (.loop { r with state:=.exhausted,pending:=pd }) }:=by
 subst hp;rcases C with C|C<;>simp[Instr.endLoop,gS h,Dt h (λ_ _ _ h=>by cases h),C]
def zsZ:Ex->Y Code
 |.normal=>none
 |.ret=>some .ret
 |.exit i=>some (.exit i)
def zfs{st:Nat}{ex:Ex}{l:Loop}(h:zEY st=some ex)(hl:zNl st l):(l.state=.ready\/l.state=.done)/\l.pending=zsZ ex:=by
 match st,h,hl with
 | 0,h,hl=>cases h;exact⟨.inl hl.1,hl.2⟩
 | 1,h,_=>cases h
 | 2,h,hl=>cases h;exact⟨.inr hl.1,hl.2⟩
 |i+3,h,hl=>cases h;exact⟨.inr hl.1,hl.2⟩
theorem zkg (cH:TE I E ev) {sz:Nat}   {assign body:Code} {ex:Ex} (h:(ob (bU T g) λv=>GI ev sz ps assign body T C v)=some (ex,T',a9)) :
 zhf I E.P false sz (.rangeFunc g ps assign body) T C ex T' a9:=by
 intro N X r w F μ a Q hr hR hD hO hT cd hM hQ;obtain rfl:=hr.1 rfl;have sR:=hr.2;simp only[aC]at h;let⟨v,hv,h⟩:=h;simp only[GI,aC,bI,aK,Hx]at h;obtain⟨gf,hgf,nN,⟨v1,cp⟩,hq,o,ho,l,rfl,Tm,hb,h⟩:=h;cases h;dsimp only at ho hO hQ;have GP:=dM (a:=a) hT hv;have hfn:=cH.body hq;let⟨f,Ca⟩:=gf;dsimp only at hq hfn;have zQP:v=.func f Ca:=by unfold funcOf at hgf;grind
 subst zQP;let⟨ys,hy,hys,pC⟩:=GP.Br;refine wpIn_rangeFunc λfn _=>?_;obtain⟨lp,w1,μ1,dg,Gv,sB,⟨m,hm,rfl⟩,hdef⟩:=zge hR hD nN hT cd fn ps assign body;refine⟨m.b,_,w1,{ target:=.fn (.func f) ys,args:=#[.func (.yield m.b) #[] #[]] },w1,f,#[.func (.yield m.b) #[] #[]]++ys,w1,dg,?_,λ_ _=>trivial,?_,(λh=>by cases h),?_⟩;simp[resolve,rangeCall,hy,Deferred.ofValue,show ∀ v,a.eval (.const v)=v fromλ_=>rfl];simp[invoke,NI hfn];have mc:Kept C (HS.put { H:=C.H,n:=C.n+1,log:=C.log } C.n (.lp sz T ps.toList assign body 0)):=by have:=yG (C:={ H:=C.H,n:=C.n+1,log:=C.log }) (.lp sz T ps.toList assign body 0) nN;exact⟨this.log,this.obj,mQ _,this.hm⟩
 have Oy:pP X cp:=(o9 ..).off hO
 have hA:Nk I w1 F μ1 (.lx C.n::Ca) (#[.func (.yield m.b) #[] #[]]++ys):=by
  refine⟨by simp[hys];omega,λi u hi=>?_⟩
  cases i with
  |zero=>cases hi;exact⟨_,by rw[mU (by simp)];rfl,.lx _ m hm⟩
  | succ i =>have cm:Ca[i]?=some u:=(by simpa using hi);have cG:i<ys.size:=(by grind);have O:=sB.rep hR (pC i u cm);rw[bS,fB cG]at O;grind
 refine Wv ((cH.call hq X w1 F μ1 _ Gv (sB.cx mc.le hD) Oy hA).mono λe w3 he=>?_)
 cases e with
 |panicked c=>exact he.elim
 |outgrown=>exact he.elim
 | returned y =>
   let⟨F3,μ3,Wb,_,Ty⟩:=he;have yW:=Ty.mm _ _ _ hm;let⟨⟨lw,g0,g1,_⟩,_⟩:=Wb.obj _ _ ho m yW;let⟨g2,g3⟩:=zfs hb g1;let⟨Wc,RR⟩:=DI Wb yW (b':=1) ho g0 (st:=.exhausted) (pd:=zsZ ex) trivial;have pB:=(sB.trans Ty).trans RR;refine⟨zsZ ex,_,w8 g0 g2 g3,?_⟩
   suffices cM:Q (zpR ex) { a with defers:=[{ target:=.collected w.heap.size,args:=#[] }]++a.defers } { w3 with heap:=w3.heap.setIfInBounds m.b (.loop { lw with state:=.exhausted,pending:=zsZ ex }) } by
    cases ex with
    |normal=>exact cM
    |ret=>exact wpIn_ret cM
    |exit i=>exact wpIn_exit cM
   refine hQ _ _ F3 μ3 Wc (pB.znh hR hT) rfl ?_ pB;let⟨hN,rs,⟨r1,_⟩,r2,r3⟩:=hM;have zMa:=Ty.trans RR;have hlt1:w.heap.size<w1.heap.size:=(d9.1 hdef).1;refine⟨aO hN pB.size,w.heap.size::rs,⟨?_,λh=>by rw[sR]at h;cases h⟩,?_,?_⟩;grind;simp[r2];intro r hr;rcases ay.1 hr with rfl|hr;refine⟨hN,?_⟩;rw[zMa.bw _ hlt1 (Gv.deferred hdef)];exact hdef;refine⟨(r3 r hr).1,?_⟩;have h4:=(r3 r hr).2;rw[pB.bw r (d9.1 h4).1 (hR.deferred h4)];exact h4
end
section
variable {I:Nat->Value}{w w':World}{a9:HS}{T T':PT V}
def ru(w:World)(r:Nat):World:={ w with heap:=w.heap.setIfInBounds r (.deferred none) }
def Gy(h:w.heap[r]?=some (.deferred ds))(b o:Nat):(ru w r).cell? ⟨b,o,none⟩=w.cell? ⟨b,o,none⟩:=by
 have cG:=(d9.1 h).1;by_cases e:b=r;subst e;have e2:(ru w b).heap[b]?=some (.deferred none):=by simp[ru,cG]
 simp only[World.cell?,e2,h];simp[World.cell?,ru,Ne.symm e]
theorem pU{b:Nat}(h:b≠r):(ru w r).heap[b]?=w.heap[b]?:=by
 grind [ru]
def fJ.cells{v:V}(h:fJ I w F v x)(hw:∀ b o,w'.cell? ⟨b,o,none⟩=w.cell? ⟨b,o,none⟩):fJ I w' F v x:=by
 induction h with
 |bool b=>exact .bool b
 |int k n=>exact .int k n
 |str s=>exact .str s
 |de=>exact .de
 |a8=>exact .a8
 |dy=>exact .dy
 |nilFunc=>exact .nilFunc
 |nilIface=>exact .nilIface
 |sym k=>exact .sym k
 |func f=>exact .func f
 |iface t v y _ ih=>exact .iface t v y ih
 |ref cs b off ys hb hc _ ih=>exact .ref cs b off ys hb (λi v hi=>by rw[hw];exact hc i v hi) ih
 |pT a c t h=>exact .pT a c t h
 |rj es b off size c t ys hb hl hc _ M O ih=>exact .rj es b off size c t ys hb hl (λi e j v hi hj=>by rw[hw];exact hc i e j v hi hj) ih M O
 |agg cs ys C _ ih=>exact .agg cs ys C ih
 |tuple cs ys C _ ih=>exact .tuple cs ys C ih
def dZ.cells{v:V}(h:dZ I w F μ v x)(hw:∀ b o,w'.cell? ⟨b,o,none⟩=w.cell? ⟨b,o,none⟩):dZ I w' F μ v x:=by
 induction h with
 |pure hp=>exact .pure (hp.cells hw)
 |ptr id g off m hm=>exact .ptr id g off m hm
 |own id g off len cap c m hm M O h3 h4=>exact .own id g off len cap c m hm M O h3 h4
 |map id m hm=>exact .map id m hm
 |lx id m hm=>exact .lx id m hm
 |func f cs ys C _ ih=>exact .func f cs ys C ih
 |iface t v y _ ih=>exact .iface t v y ih
 |agg cs ys C _ ih=>exact .agg cs ys C ih
 |tuple cs ys C _ ih=>exact .tuple cs ys C ih
def R.zne(hR:R I w F μ P C)(h:w.heap[r]?=some (.deferred ds)):R I (ru w r) F μ P C:=by
 have hc:=Gy h;have cd:(ru w r).heap.size=w.heap.size:=by simp[ru]
 refine⟨λid g m hm=>by rw[cd];exact hR.lt id g m hm,λb hb=>by rw[cd];exact hR.BR b hb,λid o ho=>?_,hR.inj,hR.zL,λv hv=>⟨(hR.gl v hv).1,(hc v 0).trans (hR.gl v hv).2⟩⟩;have IJ:=hR.obj id o ho
 cases o with
 | arr size gen es exact fz row =>intro m hm;let⟨M,O,⟨cells,el,ew,ht,hl,he,b7⟩,h4,h5⟩:=IJ m hm;have cg:m.b≠r:=λe=>(by rw[e,h]at ew;cases ew);refine⟨M,O,⟨cells,el,(pU cg).trans ew,ht,hl,he,λk e j v hk hj=>?_⟩,h4,h5⟩;let⟨y,hy,hr,hp⟩:=b7 k e j v hk hj;exact⟨y,hy,hr.cells hc,λhr=>(hp hr).cells hc⟩
 | mp es =>intro m hm;let⟨⟨en,clock,he,C,b7⟩,h5⟩:=IJ m hm;have cg:m.b≠r:=λe=>(by rw[e,h]at he;cases he);refine⟨⟨en,clock,(pU cg).trans he,C,λi k v hi=>?_⟩,h5⟩;let⟨e,M,O,h3⟩:=b7 i k v hi;exact⟨e,M,O.cells hc,h3.cells hc⟩
 | lp fn T ps assign body busy =>
   intro m hm;let⟨⟨l,hl,M,h4,h5,h6,h7,h8⟩,HE⟩:=IJ m hm;have cg:m.b≠r:=λe=>(by rw[e,h]at hl;cases hl);refine⟨⟨l,(pU cg).trans hl,M,h4,h5,h6,λt v hv=>?_,h8⟩,HE⟩;let⟨x,W,hr⟩:=h7 t v hv;exact⟨x,W,hr.cells hc⟩
def iu(h:w.heap[r]?=some (.deferred (some []))):(Instr.takeDeferred r).run P w=.ok [] (ru w r):=by
 simp[Instr.takeDeferred,Du h (λ_ _ _ h=>by cases h),Dt h (λ_ _ _ h=>by cases h),ru]
theorem zkO{fn:Func}(hN:w0.heap.size<=N)
 (cM:∀ w,R I w F μ P C->kR I w F μ T tm->Fr w0 F0 μ0 eR w F μ C->∃ v,(results fn tm).run P w=.ok v w/\Rp (.returned v) w):∀ (rs:Z Nat) (w:World),R I w F μ P C->kR I w F μ T tm->Fr w0 F0 μ0 eR w F μ C->rs.Nodup ->
 (∀ r∈rs,N<=r/\w.heap[r]?=some (.deferred (some [])))->LeavesInM (Wr none) 0 P fn tm Rp (rs.map (λr=>{ target:=.collected r,args:=#[] })) .returning w:=by
 intro rs
 induction rs with
 |nil=>intro w hR hT hf _ _;exact cM w hR hT hf
 | cons r rs ih =>
   intro w hR hT hf eV b7;have hr:=b7 r (aB ..);refine⟨by simp,.inl ⟨r,ru w r,rfl,iu hr.2,?_⟩⟩;have tc:=gK.1 eV;refine ih _ (hR.zne hr.2) (λt v hv=>?_) ?_ tc.2 (λs C=>⟨(b7 s (aD _ C)).1,?_⟩);let⟨x,W,h⟩:=hT t v hv;exact⟨x,W,h.cells (Gy hr.2)⟩;refine⟨hf.io,by simpa [ru]using hf.size,λb hb hn=>?_,hf.fm,hf.CQ,hf.mm,hf.own,hf.hm,hf.sm,hf.dm,hf.mn⟩;rw[pU (by have:=hr.1;omega)];exact hf.bw b hb hn;grind [pU,List.mem_cons_of_mem]
def zoR(hR:R I w F μ P C){t:TypeId}{i:TI}(hi:ti P t=some i){p v:V}(W:dZ I w F μ p x)(h:Ii i C p=some v) :
 ∃ A y,x=.pointer (some A)/\(loadVar t A).run P w=.ok y w/\dZ I w F μ v y:=by
 let⟨y,M,O⟩:=zih hR hi W h;have hp:∃ A,x=.pointer (some A):=by unfold Ii at h;split at h;obtain⟨m,_,rfl⟩:=W.yI;exact⟨_,rfl⟩;have W:=W.GG;cases W;exact⟨_,rfl⟩;cases h
 obtain⟨A,rfl⟩:=hp;exact⟨A,y,rfl,by simpa [Instr.loadAt,Instr.sureAddr]using M,O⟩
theorem zhP (hR:R I w F μ P C)  (hT:kR I w F μ T tm):∀ {l:Z ResultVar} {vs:Z V},NL P T C l=some vs ->
 ∃ xs:Z Value,(l.mapM (λx:ResultVar=>match x with
   |.tmp t=>(pure (tm.getD t undef):Sem Value)
   |.cell a t=>do loadVar t (<- asAddr (tm.getD a undef)))).run P w=.ok xs w/\xs.length=vs.length/\∀ (i:Nat) (v:V),vs[i]?=some v->∃ x,xs[i]?=some x/\dZ I w F μ v x:=by
 intro l
 induction l with
 |nil=>intro vs h;cases h;exact⟨[],rfl,rfl,λi v hi=>by simp at hi⟩
 | cons x l ih =>
   intro vs h
   replace h:(ob (match x with
    |.tmp t=>T.get t
    |.cell a t=>ob (ti P t) λi=>ob (T.get a) λp=>Ii i C p) λv=>ob (NL P T C l) λr=>some (v::r))=some vs:=h
   simp only[aC]at h;let⟨v,hv,r,hr,h⟩:=h;cases h;let⟨xs,M,O,h3⟩:=ih hr
   have s9:∃ y,(match x with
    |.tmp t=>(pure (tm.getD t undef):Sem Value)
    |.cell a t=>do loadVar t (<- asAddr (tm.getD a undef))).run P w=.ok y w/\dZ I w F μ v y:=by
    cases x with
    | tmp t =>let⟨y,hy,hr⟩:=hT t v hv;simp_all
    | cell a t =>simp only[aC]at hv;let⟨i,hi,p,hp,hl⟩:=hv;let⟨y,hy,hr⟩:=hT a p hp;obtain⟨A,z,rfl,hz,JT⟩:=zoR hR hi hr hl;refine⟨z,?_,JT⟩;simp[hy,asAddr,hz]
   let⟨y,hy,hyr⟩:=s9;refine⟨y::xs,?_,by simp[O],λi u hi=>?_⟩;simp_all;grind
theorem XP{vs:Z V}{xs:Array Value}(hlen:xs.size=vs.length)(h:∀ (i:Nat) (v:V),vs[i]?=some v->∃ x,xs[i]?=some x/\dZ I w F μ v x) :
 dZ I w F μ (yx vs) (if h:xs.size=1 then xs[0]else .tuple xs):=by
 match vs with
 | [] =>rw[dif_neg (by rw[hlen];simp)];exact .tuple [] xs hlen λi v hi=>by simp at hi
 | [v] =>have hlen1:xs.size=1:=hlen;rw[dif_pos hlen1];let⟨x,W,hr⟩:=h 0 v rfl;rw[fB (by rw[hlen];simp)]at W;cases W;exact hr
 | v::u::t =>
   rw[dif_neg (by rw[hlen];simp)];refine .tuple (v::u::t) xs hlen λi y hi=>?_;let⟨x,W,hr⟩:=h i y hi;simp_all
def YC :∀ {vs:Z V} {i:Nat} {T T':PT V} {tm:Array Value},jH n vs i T=some T'->kR I w F μ T tm->(∀ (k:Nat) (v:V),vs[k]?=some v->∃ x,tm[i+k]?=some x/\dZ I w F μ v x)->kR I w F μ T' tm:=by
 intro vs
 induction vs with
 |nil=>intro i T T' tm h hT _;cases h;exact hT
 | cons v vs ih =>
   intro i T T' tm h hT W;replace h:gd (Nat.blt i n) (jH n vs (i+1) (T.set i v))=some T':=h;simp only[bI]at h;refine ih h.2 (λt u hu=>?_) (λk u hk=>?_);rw[PT.cZ]at hu;by_cases e:t=i;subst e;rw[if_pos rfl]at hu;cases hu;exact W 0 v rfl;rw[if_neg e]at hu;exact hT t u hu;have:=W (k+1) u (by simpa using hk)
   rwa [show i+(k+1)=i+1+k by omega]at this
theorem zqr(cH:TE I E ev){vs:Z V}{v:V}(h:LK E ev f vs C=some (v,a9)):aS I E.P f vs C v a9:=by
 simp only[LK,aC]at h;let⟨fn,hf,c,hb,T,hT,⟨ex,T1,cp⟩,hq,h⟩:=h;intro X w F μ xs hR hD hO hA;have oT:∃ l,ex≠.exit 0/\(∀ i,ex≠.exit i)/\NL E.P T1 cp fn.results.toList=some l/\v=yx l/\a9=cp:=by grind [Vu,aC]
 obtain⟨l,_,cg,hl,rfl,rfl⟩:=oT;refine callsIn_of_wp_marks hf hb trivial ?_;have cd:fn.ntmps<=(xs++Array.replicate (fn.ntmps-xs.size) undef).size:=by simp;omega
 have hT0:kR I w F μ T (xs++Array.replicate (fn.ntmps-xs.size) undef):=by refine YC hT (λt u hu=>by cases hu) λk u hk=>?_;let⟨x,W,hr⟩:=hA.2 k u hk;grind
 refine cH.code hq ⟨w.heap.size,[],false⟩ X none w F μ _ _ ⟨λ_=>rfl,rfl⟩ hR hD hO hT0 cd (Marks.nil (af _)) ?_;intro a' w' F' μ' vf hT' _ hM Bx;have ss:LeavesInM (Wr none) 0 E.P fn a'.tmps (zAB I E.P w F μ C (yx l) a9) a'.defers .returning w':=by let⟨hN,rs,⟨r1,_⟩,r2,r3⟩:=hM;rw[r2,show ∀ l:Z Deferred,l++(NB.mk w.heap.size [] false).base=l from fq];refine zkO (af _) (λw2 pL B4 wj=>?_) rs w' vf hT' Bx r1 r3;let⟨ys,M,O,h3⟩:=zhP pL B4 hl;refine⟨_,?_,F',μ',pL,XP (xs:=ys.toArray) (by simpa using O) (λi u hi=>by simpa using h3 i u hi),wj⟩;unfold results;rw[Sem.run_bind,Array.mapM_eq_mapM_toList];rw[Sem.run_map];exact Eq.trans (congrArg (λz:Result (Z Value)=>(z.andThen λa w'=>Result.ok a.toArray w').andThen λa w'=>Sem.run E.P (pure (if h:a.size=1 then a[0]else Value.tuple a)) w') M) rfl
 cases ex with
 |normal=>exact ss
 |ret=>exact ss
 |exit i=>exact absurd rfl (cg i)
theorem zp4 (hρ:Good I)  (aq:bK I E) (hP:E.P.follows .mixedOrders=true)  (b7:∀ i,i<=n->TE I E (rV E i)) {rd:Bool} {sz:Nat}  {ex:Ex}
 (h:Sd E (rV E n) rd sz c T C=some (ex,T',a9)):zhf I E.P rd sz c T C ex T' a9:=by
 have cH:=b7 n (af _);have CI:=cH.kept;have h0:=h;unfold Sd at h;split at h;cases h;intro N X r w F μ a Q _ hR hD hO hT cd hM hQ;exact wpIn_skip (hQ a w F μ hR hT rfl hM (Fr.refl ..));rename_i id ops draw;intro N X r w F μ a Q _ hR hD hO hT cd hM hQ;simp only[zfb,aC]at h;obtain⟨q,hq,h⟩:=h;cases h;rw[iV]at hq
 cases draw with
 |true=>exact zuu hρ aq cH hP hq hR hD hO hT cd hM hQ
 |false=>exact zj8 hρ aq cH hq hR hD hO hT cd hM hQ
 rename_i x y;intro N X r w F μ a Q hr hR hD hO hT cd hM hQ;simp only[aC]at h;obtain⟨⟨e1,T1,cp⟩,hq,h⟩:=h;refine wpIn_seq ?_;rcases zcg h with⟨e,h⟩|⟨cg,e⟩;dsimp only at e h;subst e;refine cH.code hq N X r w F μ a _ hr hR hD ((CI.code h).off hO) hT cd hM ?_;intro a1 w1 F1 μ1 Gv ir eL rL sB;refine cH.code h N X r w1 F1 μ1 a1 _ hr Gv (sB.cx (CI.code hq).le hD) hO ir (by rw[eL];exact cd) rL ?_;intro a2 w2 F2 μ2 pL B4 hsz2 hM2 wj;exact hQ a2 w2 F2 μ2 pL B4 (by rw[hsz2,eL]) hM2 (sB.trans wj);cases e;refine cH.code hq N X r w F μ a _ hr hR hD hO hT cd hM ?_;grind [zhu];rename_i q x y;intro N X r w F μ a Q hr hR hD hO hT cd hM hQ;simp only[aC,V.fv]at h;obtain⟨_,hv,t,rfl,h⟩:=h;have he:=(dM (a:=a) hT hv).uL;refine wpIn_cond he ?_;rw[iV]at h
 cases t with
 |true=>exact cH.code h N X r w F μ a Q hr hR hD hO hT cd hM hQ
 |false=>exact cH.code h N X r w F μ a Q hr hR hD hO hT cd hM hQ
 rename_i id body;intro N X r w F μ a Q hr hR hD hO hT cd hM hQ;simp only[aC]at h;obtain⟨⟨e1,T1,cp⟩,hq,h⟩:=h;refine wpIn_block ?_;unfold WA at h;split at h;rename_i j he;dsimp only at he;subst he;rw[iV]at h;split at h;rename_i hj;rw[beq_true]at hj;subst hj;cases h;refine cH.code hq N X r w F μ a _ hr hR hD hO hT cd hM ?_;intro a1 w1 F1 μ1 Gv ir eL rL sB;show (if j=j then Q .normal a1 w1 else Q (.exit j) a1 w1);rw[if_pos rfl];exact hQ a1 w1 F1 μ1 Gv ir eL rL sB;rename_i hj;rw[beq_true]at hj;cases h;refine cH.code hq N X r w F μ a _ hr hR hD hO hT cd hM ?_;intro a1 w1 F1 μ1 Gv ir eL rL sB;show (if j=id then Q .normal a1 w1 else Q (.exit j) a1 w1);rw[if_neg hj];exact hQ a1 w1 F1 μ1 Gv ir eL rL sB;rename_i cg;cases h;refine cH.code hq N X r w F μ a _ hr hR hD hO hT cd hM ?_;intro a1 w1 F1 μ1 Gv ir eL rL sB;have:=hQ a1 w1 F1 μ1 Gv ir eL rL sB
 cases ex with
 |normal=>exact this
 |ret=>exact this
 |exit j=>exact absurd rfl (cg j)
 rename_i body;intro N X r w F μ a Q hr hR hD hO hT cd hM hQ
 refine zey (j:=n+1) (λj a' w'=>j<=n+1/\∃ T1 cp F1 μ1,(rV E j).code rd sz (.loop body) T1 cp=some (ex,T',a9)/\R I w' F1 μ1 E.P cp/\Py X μ1 cp/\kR I w' F1 μ1 T1 a'.tmps/\a'.tmps.size=a.tmps.size/\Marks N w' a'.defers/\Fr w F μ C w' F1 μ1 cp)
  ?_ ⟨af _,T,C,F,μ,h0,hR,hD,hT,rfl,hM,Fr.refl ..⟩
 rintro j a1 w1 ⟨hj,T1,cp,F1,μ1,hc,Gv,vj,ir,eL,rL,sB⟩
 cases j with
 |zero=>cases hc
 | succ i =>have zt5:=b7 i (by omega);replace hc:(ob ((rV E i).code rd sz body T1 cp) λr=>KT (rV E i) rd sz (.loop body) r)=some (ex,T',a9):=hc;simp only[aC]at hc;obtain⟨⟨e2,T2,ea⟩,hq,hc⟩:=hc;rcases zcg hc with⟨e,hc⟩|⟨cg,e⟩;dsimp only at e hc;subst e;refine zt5.code hq N X r w1 F1 μ1 a1 _ hr Gv vj ((zt5.kept.code hc).off hO) ir (by rw[eL];exact cd) rL ?_;intro a2 w2 F2 μ2 pL B4 hsz2 hM2 wj;exact⟨i,ji i,by omega,T2,ea,F2,μ2,hc,pL,wj.cx (zt5.kept.code hq).le vj,B4,by rw[hsz2,eL],hM2,sB.trans wj⟩;cases e;refine zt5.code hq N X r w1 F1 μ1 a1 _ hr Gv vj hO ir (by rw[eL];exact cd) rL ?_;intro a2 w2 F2 μ2 pL B4 hsz2 hM2 wj;exact zhu cg (hQ a2 w2 F2 μ2 pL B4 (by rw[hsz2,eL]) hM2 (sB.trans wj))
 cases h;intro N X r w F μ a Q _ hR hD hO hT cd hM hQ;exact wpIn_exit (hQ a w F μ hR hT rfl hM (Fr.refl ..));cases h;intro N X r w F μ a Q _ hR hD hO hT cd hM hQ;exact wpIn_ret (hQ a w F μ hR hT rfl hM (Fr.refl ..));rename_i g ps assign body;grind [bI,jQ,zkg];cases h
def vX (P : Program) : Prop := ∀ (f : Nat) (fn : Func), P.funcs[f]? = some fn -> fn.body.isSome = true -> fn.name ≠ "runtime.NumGoroutine"
theorem zpS(hρ:Good I)(aq:bK I E)(hP:E.P.follows .mixedOrders=true)(hN:vX E.P):∀ n,TE I E (rV E n):=by
 intro n
 induction n using Nat.strongRecOn with
 | _ n ih =>
   cases n with
   |zero=>exact⟨λh=>(by cases h),λh=>(by cases h),λh=>(by cases h),zds aq.kept 0⟩
   | succ n =>
     refine⟨λh=>zp4 hρ aq hP (λi hi=>ih i (by omega)) h,λh=>zqr (ih n (by omega)) h,λh=>?_,zds aq.kept (n+1)⟩;replace h:LK E (rV E n) _ _ _=some _:=h;simp only[LK,aC]at h;let⟨fn,hf,c,hb,_⟩:=h;exact⟨fn,hf,by rw[hb];rfl,hN _ _ hf (by rw[hb];rfl)⟩
end
section
variable {I:Nat->Value}
def P4(I:Nat->Value)(w:World)(v:V)(x:Value):Prop:=fJ I w (λb=>b<w.heap.size) v x
theorem Jr(hρ:Good I)(aq:bK I E)(hP:E.P.follows .mixedOrders=true)(hN:vX E.P){vs:Z V}{v:V}(h:zjX E n f vs=some v)(hp:bX vs=true) :
 aS I E.P f vs C v C:=by
 refine Sm (ev:=rV E n) hp (λh=>(zpS hρ aq hP hN n).call h) ?_;grind [zjX,aC,rW]
end
def VT (P:Program):Nat->TypeId->Z V->Prop
 | 0,_,_=>False
 | n+1,t,vs=>match P.underlying t with
   |some .bool=>∃ b,vs=[.bool b]
   |some (.int k)=>∃ m,vs=[.int k m]/\(Lit.int k m).wf=true
   |some .string=>∃ l,vs=[.str l]/\l.length<=maxLen/\∀ x∈l,x<256
   |some (.slice e)=>vs=[.a8]\/∃ es,vs=[.sl es false]/\es.length<=maxLen/\∀ c∈es,VT P n e c
   |some (.struct fs)=>vs.length=P.cellsOf t/\∀ f∈fs.toList,VT P n f.type ((vs.drop f.offset).take (P.cellsOf f.type))
   |_=>False
def zik(P:Program):Z Field->Nat->Nat->Bool
 | [],off,total=>Nat.beq off total
 |f::fs,off,total=>Nat.beq f.offset off&&zik P fs (off+P.cellsOf f.type) total
def zfi(P:Program)(S:Z TypeId):Bool:=S.all λt=>match P.underlying t with
 |some .bool|some (.int _)|some .string=>Nat.beq (P.cellsOf t) 1
 |some (.slice e)=>S.contains e&&Nat.beq (P.cellsOf t) 1&&Nat.blt 0 (P.cellsOf e)
 |some (.struct fs)=>zik P fs.toList 0 (P.cellsOf t)&&fs.toList.all λf=>S.contains f.type
 |_=>false
section
variable (I:Nat->Value){H:Type}{enc:TypeId×Value->H}{w:World}{base:Nat}{sp:Nat->Bool}{held:Bool}
def Cells(w:World)(vs:Z V)(cs:Z Value):Prop:=vs.length=cs.length/\∀ (i:Nat) (v:V),vs[i]?=some v->∃ c,cs[i]?=some c/\P4 I w v c
def Cells.one{v:V}{c:Value}(h:P4 I w v c):Cells I w [v] [c]:=⟨rfl,λi u hu=>by
 match i,hu with
 | 0,hu=>cases hu;exact⟨c,rfl,h⟩⟩
theorem Cells.append{vs us:Z V}{cs ds:Z Value}(h:Cells I w vs cs)(k:Cells I w us ds):Cells I w (vs++us) (cs++ds):=by
 refine⟨by rw[aR,aR,h.1,k.1],λi v hv=>?_⟩;by_cases hi:i<vs.length;rw[jY hi]at hv;let⟨c,M,O⟩:=h.2 i v hv;grind;rw[eU (by omega)]at hv;let⟨c,M,O⟩:=k.2 _ v hv;exact⟨c,by rw[eU (by rw[<- h.1];omega),<- h.1];exact M,O⟩
theorem zaS {T:TypeId->Z Value->Z V->Prop} (hT:∀ t cs vs,T t cs vs->Cells I w vs cs/\vs.length=P.cellsOf t) {cs:Z Value}:∀ (fs:Z Field) (off:Nat),zik P fs off cs.length=true->off<=cs.length ->
 (∀ f∈fs,∃ vs,T f.type ((cs.drop f.offset).take (P.cellsOf f.type)) vs) ->
 ∃ vs,Cells I w vs (cs.drop off)/\∀ f∈fs,off<=f.offset/\T f.type ((cs.drop f.offset).take (P.cellsOf f.type)) ((vs.drop (f.offset-off)).take (P.cellsOf f.type)):=by
 intro fs
 induction fs with
 | nil =>intro off hl _ _;have he:off=cs.length:=jb hl;refine⟨[],?_,λf hf=>by cases hf⟩;rw[he,bz];exact⟨rfl,λi v hv=>by simp at hv⟩
 | cons f fs ih =>
   intro off hl hle hf;simp only[zik,aW]at hl;have ho:f.offset=off:=jb hl.1;let⟨us,zP6⟩:=hf f (aB ..);let⟨hc,hlen⟩:=hT _ _ _ zP6;have hle2:off+P.cellsOf f.type<=cs.length:=(by have:=hc.1;grind);let⟨vs,fy,hr⟩:=ih _ hl.2 hle2 λg hg=>hf g (aD _ hg);refine⟨us++vs,?_,λg hg=>?_⟩;have e:cs.drop off=(cs.drop f.offset).take (P.cellsOf f.type)++cs.drop (off+P.cellsOf f.type):=(by rw[ho,<- List.drop_drop,List.take_append_drop]);rw[e];exact hc.append I fy;rcases ay.1 hg with rfl|hg;simp_all;grind [List.drop_append,List.drop_eq_nil_of_le]
theorem zdN{p:Nat->α->Prop}:∀ n:Nat,(∀ i,i<n->∃ x,p i x)->∃ l:Z α,l.length=n/\∀ (i:Nat) (x:α),l[i]?=some x->p i x:=by
 intro n
 induction n with
 |zero=>exactλ_=>⟨[],rfl,λi x h=>by simp at h⟩
 | succ n ih =>
   intro h;let⟨l,M,O⟩:=ih λi hi=>h i (by omega);let⟨x,W⟩:=h n (by omega);refine⟨l++[x],by simp[M],λi y hy=>?_⟩;grind
theorem KL{row:Z Value}(h:w.cells? base a n=some row):row.length=n/\∀ j,j<n->row[j]?=w.cell? (a.add j):=by
 unfold World.cells? at h;split at h;refine⟨by simpa using mapM_some_length h,λj hj=>?_⟩;exact(mapM_some_get h j j (by simp[hj])).symm;cases h
theorem zee(ha:a.spot=none)(n m:Nat):(a.add n).add m=⟨a.block,a.off+n+m,none⟩:=by
 cases a;simp only at ha;subst ha;unfold Addr.add;grind
theorem zjL  {es:Z (Z V)} {size cap:Nat} (cd:0<size) (hlen:es.length<=cap) (h:∀ i e,es[i]?=some e->e.length=size/\∃ row,w.cells? base (a.add (i*size)) size=some row/\Cells I w e row) :
 P4 I w (.sl es false) (.slice (some a) es.length cap):=by
 cases es with
 |nil=>exact .pT _ _ _ (λh=>by cases h)
 | cons e0 es0 =>
   let⟨oB,row0,z7,wk⟩:=h 0 e0 rfl;have BT:=(KL z7).2 0 cd;have zL5:0<row0.length:=(by rw[(KL z7).1];exact cd);rw[az zL5]at BT;have tG:a.spot=none/\a.block<w.heap.size:=(by simp only[Nat.zero_mul,Addr.add,if_true]at BT;unfold World.cell? at BT;split at BT;rename_i hb;split at BT;cases BT;rename_i C;refine⟨by simpa using C,?_⟩;grind;cases BT);let⟨C,hb⟩:=tG;let⟨b,off,s⟩:=a;simp only at C hb;subst C;refine .rj (e0::es0) b off size cap false (λi j=>(w.cell? ⟨b,off+i*size+j,none⟩).getD undef) hb (λe he=>?_) (λi e j v hi hj=>?_) (λi e j v hi hj=>?_) hlen (λh=>by cases h);grind [List.mem_iff_getElem?];let⟨hl,row,hr,hc⟩:=h i e hi;let⟨c,M,O⟩:=hc.2 j v hj;have ju:j<size:=(by rw[<- hl];exact(aM.1 hj).1);grind [KL,zee];let⟨hl,row,hr,hc⟩:=h i e hi;let⟨c,M,O⟩:=hc.2 j v hj;have ju:j<size:=(by rw[<- hl];exact(aM.1 hj).1);have:=(KL hr).2 j ju;rw[M,zee rfl]at this;rw[<- this];exact O
theorem UM  (hS:zfi P S=true):∀ (n:Nat) (t:TypeId) (cs:Z Value) (x:DataW H×Z MemPlace),t∈S->DataW.trod enc P w base sp held n t cs=some x ->
 ∃ vs,VT P n t vs/\Cells I w vs cs/\vs.length=P.cellsOf t:=by
 intro n
 induction n with
 |zero=>intro t cs x _ h;simp[DataW.trod]at h
 | succ n ih =>
   intro t cs x ht h;have hp:=au.1 hS t ht
   cases hu:P.underlying t with
   |none=>rw[hu]at hp;cases hp
   | some d =>
     rw[hu]at hp
     cases d with
     | bool =>obtain⟨b,rfl,_⟩:=DataW.trod_bool hu h;exact⟨[.bool b],by unfold VT;rw[hu];exact⟨b,rfl⟩,Cells.one I (.bool b),(jb hp).symm⟩
     | int k =>obtain⟨m,rfl,_,hw⟩:=DataW.trod_int hu h;exact⟨[.int k m],by unfold VT;rw[hu];exact⟨m,rfl,hw⟩,Cells.one I (.int k m),(jb hp).symm⟩
     | string =>obtain⟨s,rfl,_,hl⟩:=DataW.trod_string hu h;refine⟨[.str (bytesOf s)],?_,Cells.one I (.str s),(jb hp).symm⟩;unfold VT;rw[hu];refine⟨_,rfl,?_,?_⟩;unfold bytesOf;simp_all;intro x W;unfold bytesOf at W;obtain⟨b,_,rfl⟩:=aF.1 W;exact b.toNat_lt
     | slice e =>simp only[aW]at hp;have he:e∈S:=(by simpa using hp.1.1);have C1:P.cellsOf t=1:=jb hp.1.2;have py:0<P.cellsOf e:=gz.1 hp.2;rcases DataW.trod_slice hu h with⟨rfl,_⟩|⟨a,len,cap,elems,rest,m,hm,rfl,_,hb,hlc,hcm,GS,hread,_⟩;exact⟨[.a8],by unfold VT;rw[hu];exact .inl rfl,Cells.one I .a8,C1.symm⟩;have IH:m=n:=(by omega);subst IH;have key:∀ i,i<len->∃ vs,VT P m e vs/\vs.length=P.cellsOf e/\∃ row,w.cells? base (a.add (i*P.cellsOf e)) (P.cellsOf e)=some row/\Cells I w vs row:=(by grind [List.getElem?_eq_getElem,Option.bind_eq_some_iff]);let⟨es,fY,b7⟩:=zdN len key;refine⟨[.sl es false],?_,Cells.one I ?_,C1.symm⟩;grind [VT,List.mem_iff_getElem?];rw[<- fY];exact zjL I py (by omega) λi e' hi=>⟨(b7 i e' hi).2.1,(b7 i e' hi).2.2⟩
     | struct fs =>simp only[aW]at hp;let⟨xs,m,hm,_,ew,hxl,hf⟩:=DataW.trod_struct hu h;have IH:m=n:=(by omega);subst IH;have eE:∀ f∈fs.toList,f.type∈S:=λf hf=>(by grind);let⟨vs,fy,b7⟩:=zaS (P:=P) I (w:=w) (T:=λt cs vs=>VT P m t vs/\Cells I w vs cs/\vs.length=P.cellsOf t) (λt cs vs h=>⟨h.2.1,h.2.2⟩) (cs:=cs) fs.toList 0 (by rw[ew];exact hp.1) (aZ _) λf To=>(by let⟨i,hi⟩:=jf.1 To;grind);rw[sJ]at fy;refine⟨vs,?_,fy,by rw[fy.1,ew]⟩;unfold VT;rw[hu];refine⟨by rw[fy.1,ew],λf To=>?_⟩;grind
     |_=>cases hp
end
structure Nj(a b:Ev):Prop where
 code:∀ {rd sz c T C r},a.code rd sz c T C=some r->b.code rd sz c T C=some r
 call:∀ {f vs C r},a.call f vs C=some r->b.call f vs C=some r
section
variable {a b:Ev}{T:PT V}
theorem zlY (h:Nj a b)  {vs:Z V} {r:V×HS} (hr:Fy E a f vs C=some r):Fy E b f vs C=some r:=by
 unfold Fy at hr ⊢
 cases hp:E.zj f with
 | zero =>rw[hp]at hr;replace hr:bi (bX vs) (rW a f vs C) (a.call f vs C)=some r:=hr;show bi (bX vs) (rW b f vs C) (b.call f vs C)=some r;rw[iV]at hr ⊢;split at hr;rename_i hb;rw[if_pos hb];simp only[rW,aC]at hr ⊢;let⟨q,M,O⟩:=hr;exact⟨q,h.call M,O⟩;rename_i hb;rw[if_neg hb];exact h.call hr
 | succ m =>
   rw[hp]at hr
   cases m with
   |zero=>exact h.call hr
   | succ m =>
    cases m with
    |succ m =>replace hr:Bc a f vs C=some r:=hr;show Bc b f vs C=some r;simp only[Bc,aC]at hr ⊢;let⟨q,M,O⟩:=hr;exact⟨q,h.call M,O⟩
    |zero =>
     replace hr:u6 (a.call f vs C) (λeI=>oD a f eI C) (mf C vs)=some r:=hr;show u6 (b.call f vs C) (λeI=>oD b f eI C) (mf C vs)=some r
     cases cp:mf C vs with
     |none=>rw[cp]at hr;exact h.call hr
     | some eI =>
       rw[cp]at hr;replace hr:oD a f eI C=some r:=hr;show oD b f eI C=some r;simp only[oD,aC,bI]at hr ⊢;let⟨q,M,O⟩:=hr;exact⟨q,h.call M,O⟩
theorem zqj(h:Nj a b){vs:Z V}{r:V×HS}(hr:Gd E a f vs C=some r):Gd E b f vs C=some r:=by
 unfold Gd at hr ⊢
 cases hq:E.dA f vs C with
 |none=>rw[hq]at hr;exact zlY h hr
 |some q=>rw[hq]at hr;exact hr
theorem zj0(h:Nj a b){id:Nat}{vs:Z V}{r:V×HS}(hr:zW a id vs C=some r):zW b id vs C=some r:=by
 simp only[zW,aC,bI]at hr ⊢;let⟨o,M,l,O,h3,T,h4,q,h5,h6,o1,h7,l1,h8,h9,p,h10,h11⟩:=hr;exact⟨o,M,l,O,h3,T,h4,q,h.code h5,h6,o1,h7,l1,h8,h9,p,h.code h10,h11⟩
theorem Jd(h:Nj a b){id:Nat}{r:V×HS}(hr:cy E a dr T C id o=some r):cy E b dr T C id o=some r:=by
 unfold cy at hr ⊢
 cases hc:qN o.op with
 |none=>rw[hc]at hr;exact hr
 | some c =>
   rw[hc]at hr;replace hr:wL E a T C id c=some r:=hr;show wL E b T C id c=some r;simp only[wL,aC]at hr ⊢;let⟨vs,M,O⟩:=hr;refine⟨vs,M,?_⟩
   cases Sh:c.callee with
   |builtin bb=>rw[Sh]at O;exact O
   | value x =>rw[Sh]at O;simp only[aC]at O ⊢;let⟨v,h3,h4⟩:=O;refine⟨v,h3,?_⟩;unfold Mc at h4 ⊢;grind [zqj,id,zj0]
   |invoke x n=>rw[Sh]at O;cases O
theorem Yv(h:Nj a b){sz id:Nat}{ops:Z Oper}{r:PT V×HS}(hr:wB E a sz ops o id T C=some r):wB E b sz ops o id T C=some r:=by
 simp only[wB,aC]at hr ⊢;let⟨w,M,O⟩:=hr;refine⟨w,M,?_⟩;grind [iV,bI,aC,Jd]
theorem UG(h:Nj a b){sz:Nat}{ops:Z Oper}:∀ {l:Z Oper} {id:Nat} {T:PT V} {C:HS} {r:PT V×HS},uX E a sz ops l id T C=some r->uX E b sz ops l id T C=some r:=by
 intro l
 induction l with
 |nil=>intro id T C r hr;exact hr
 | cons o l ih =>
   intro id T C r hr;replace hr:(ob (wB E a sz ops o id T C) λr=>uX E a sz ops l (id+1) r.1 r.2)=some r:=hr;show (ob (wB E b sz ops o id T C) λr=>uX E b sz ops l (id+1) r.1 r.2)=some r;grind [aC,Yv]
theorem zlx(h:Nj a b){id:Nat}{r:V×HS×Z Nat×Z Nat}(hr:Aw E a o id T C=some r):Aw E b o id T C=some r:=by
 unfold Aw at hr ⊢
 cases hc:dX o.op with
 | zero =>rw[hc]at hr;replace hr:(ob (cy E a true T { H:=iC C.H (cP T o.op),n:=0,log:=[] } id o) λr=>some (r.1,C,cP T o.op,[]))=some r:=hr;show (ob (cy E b true T { H:=iC C.H (cP T o.op),n:=0,log:=[] } id o) λr=>some (r.1,C,cP T o.op,[]))=some r;grind [aC,Jd]
 | succ m =>
   rw[hc]at hr
   cases m with
   | zero =>replace hr:(gd (gW C id) (ob (cy E a true T { H:=.leaf,n:=0,log:=[] } id o) λr=>ob (r.2.H.get id) λo'=>gd (nt o'.fz) (some (r.1,C.put id o',[id],[]))))=some r:=hr;show (gd (gW C id) (ob (cy E b true T { H:=.leaf,n:=0,log:=[] } id o) λr=>ob (r.2.H.get id) λo'=>gd (nt o'.fz) (some (r.1,C.put id o',[id],[]))))=some r;grind [aC,bI,Jd]
   | succ m =>
     replace hr:(gd (gW C id) (ob (cy E a true T { H:=C.H,n:=C.n,log:=[] } id o) λr=>some (r.1,{ H:=r.2.H,n:=r.2.n,log:=kg r.2.log C.log },[],r.2.log)))=some r:=hr;show (gd (gW C id) (ob (cy E b true T { H:=C.H,n:=C.n,log:=[] } id o) λr=>some (r.1,{ H:=r.2.H,n:=r.2.n,log:=kg r.2.log C.log },[],r.2.log)))=some r;grind [aC,bI,Jd]
theorem zgh(h:Nj a b){id:Nat}{r:V×HS×Z Nat×Z Nat}(hr:A9 E a o id T C=some r):A9 E b o id T C=some r:=by
 grind [A9,iV,QC,aC,bI,Jd,zlx]
theorem zfa(h:Nj a b){sz:Nat}{ops:Z Oper}:∀ {l:Z Oper} {id:Nat} {T:PT V} {C:HS} {acc:Z (Z Nat×Z Nat)} {r:(PT V×HS)×Z (Z Nat×Z Nat)},
 xc E a sz ops l id T C acc=some r->xc E b sz ops l id T C acc=some r:=by
 intro l
 induction l with
 |nil=>intro id T C acc r hr;exact hr
 | cons o l ih =>
   intro id T C acc r hr;replace hr:(ob (lg E a ops o id (iC T (looks ops o)) C) λr=>ob (KV sz T o.dst r.1) λT'=>xc E a sz ops l (id+1) T' r.2.1 (kg acc [r.2.2]))=some r:=hr;show (ob (lg E b ops o id (iC T (looks ops o)) C) λr=>ob (KV sz T o.dst r.1) λT'=>xc E b sz ops l (id+1) T' r.2.1 (kg acc [r.2.2]))=some r;simp only[aC]at hr ⊢;let⟨q,M,T',O,h3⟩:=hr;refine⟨q,?_,T',O,ih h3⟩;simp only[lg,aC]at M ⊢;let⟨w,h4,h5⟩:=M;refine⟨w,h4,?_⟩;grind [iV,zgh]
theorem zsQ(h:Nj a b){sz:Nat}{draw:Bool}{r:Ex×PT V×HS}(hr:zfb E a sz l draw T C=some r):zfb E b sz l draw T C=some r:=by
 grind [zfb,aC,iV,R4,bI,zfa,UG]
theorem zhG(h:Nj a b){rd:Bool}{sz:Nat}{q r:Ex×PT V×HS}(hr:KT a rd sz c q=some r):KT b rd sz c q=some r:=by
 unfold KT at hr ⊢
 cases hq:q.1 with
 |normal=>rw[hq]at hr;exact h.code hr
 |ret=>rw[hq]at hr;exact hr
 |exit i=>rw[hq]at hr;exact hr
theorem zp5(h:Nj a b){rd:Bool}{sz:Nat}{r:Ex×PT V×HS}(hr:Sd E a rd sz c T C=some r):Sd E b rd sz c T C=some r:=by
 cases c<;>simp only[Sd]at hr ⊢<;>first|exact hr|exact zsQ h hr|skip
 case seq x y =>
  simp only[aC]at hr ⊢;let⟨q,M,O⟩:=hr;exact⟨q,h.code M,zhG h O⟩
 case cond q x y =>
  simp only[aC]at hr ⊢;let⟨v,M,t,O,h3⟩:=hr;refine⟨v,M,t,O,?_⟩;rw[iV]at h3 ⊢;split at h3;rename_i hw;rw[if_pos hw];exact h.code h3;rename_i hw;rw[if_neg hw];exact h.code h3
 case block id body =>
  simp only[aC]at hr ⊢;let⟨q,M,O⟩:=hr;exact⟨q,h.code M,O⟩
 case loop body =>
  simp only[aC]at hr ⊢;let⟨q,M,O⟩:=hr;exact⟨q,h.code M,zhG h O⟩
 case rangeFunc g ps assign body =>
  simp only[bI,aC,GI]at hr ⊢;let⟨M,v,O,p,h3,h4,q,h5,h6⟩:=hr;exact⟨M,v,O,p,h3,h4,q,h.call h5,h6⟩
theorem zqs(h:Nj a b){vs:Z V}{r:V×HS}(hr:LK E a f vs C=some r):LK E b f vs C=some r:=by
 simp only[LK,aC]at hr ⊢;let⟨fn,M,c,O,T,h3,q,h4,h5⟩:=hr;exact⟨fn,M,c,O,T,h3,q,h.code h4,h5⟩
theorem zdr(E:Env):∀ n,Nj (rV E n) (rV E (n+1)):=by
 intro n
 induction n with
 |zero=>exact⟨λh=>(by cases h),λh=>(by cases h)⟩
 |succ n ih=>exact⟨λh=>zp5 ih h,λh=>zqs ih h⟩
theorem JN(E:Env){m:Nat}(h:m<=n):Nj (rV E m) (rV E n):=by
 induction h with
 |refl=>exact⟨λh=>h,λh=>h⟩
 |step _ ih=>exact⟨λh=>(zdr E _).code (ih.code h),λh=>(zdr E _).call (ih.call h)⟩
end
def ok(x:Y α)(K:α->Prop):Prop:=∃ a,x=some a/\K a
def dL(a:α)(K:α->Prop):ok (some a) K=K a:=propext ⟨λ⟨b,h,k⟩=>by cases h;exact k,λk=>⟨a,rfl,k⟩⟩
def iM{β:Type}(x:Y α)(f:α->Y β)(K:β->Prop):ok (ob x f) K=ok x λa=>ok (f a) K:=by
 cases x with
 |none=>exact propext ⟨λ⟨b,h,_⟩=>(by cases h),λ⟨b,h,_⟩=>(by cases h)⟩
 |some a=>rw[ed,dL]
def vO(c:Bool)(x:Y α)(K:α->Prop):ok (gd c x) K=(c=true/\ok x K):=by
 cases c with
 |true=>rw[rE];simp
 |false=>rw[zdk];exact propext ⟨λ⟨b,h,_⟩=>(by cases h),λ⟨h,_⟩=>(by cases h)⟩
def xq{x:Y α}{K K':α->Prop}(h:ok x K)(hk:∀ a,K a->K' a):ok x K':=let ⟨a,M,O⟩:=h;⟨a,M,hk a O⟩
def br(c A B:Prop):Prop:=(c->A)/\(¬ c->B)
theorem zqm(c:Prop) [Decidable c](A B:Prop):br c A B=if c then A else B:=by
 grind [br]
def ziN(A B:Prop):br True A B=A:=by simp[br]
def zdV(A B:Prop):br False A B=B:=by simp[br]
section
variable {rd:Bool}{sz:Nat}{T:PT V}{Q:Ex->PT V->HS->Prop}
def Jc(E:Env)(rd:Bool)(sz:Nat)(c:Code)(T:PT V)(C:HS)(Q:Ex->PT V->HS->Prop):Prop :=
 ∃ n ex T' a9,(rV E n).code rd sz c T C=some (ex,T',a9)/\Q ex T' a9
def Ex.then(K:PT V->HS->Prop)(Q:Ex->PT V->HS->Prop):Ex->PT V->HS->Prop
 |.normal,T,C=>K T C
 |.ret,T,C=>Q .ret T C
 |.exit i,T,C=>Q (.exit i) T C
def Ex.inBlock(id:Nat)(Q:Ex->PT V->HS->Prop):Ex->PT V->HS->Prop
 |.normal,T,C=>Q .normal T C
 |.ret,T,C=>Q .ret T C
 |.exit i,T,C=>if i=id then Q .normal T C else Q (.exit i) T C
def Pv{Q':Ex->PT V->HS->Prop}(h:Jc E rd sz c T C Q)(hq:∀ e T C,Q e T C->Q' e T C):Jc E rd sz c T C Q' :=
 let ⟨n,e,T',a9,M,O⟩:=h;⟨n,e,T',a9,M,hq _ _ _ O⟩
def zvr(h:Q .normal T C):Jc E rd sz .skip T C Q:=⟨1,_,_,_,rfl,h⟩
def zvt{id:Nat}(h:Q (.exit id) T C):Jc E rd sz (.exit id) T C Q:=⟨1,_,_,_,rfl,h⟩
def zAr(h:Q .ret T C):Jc E rd sz .ret T C Q:=⟨1,_,_,_,rfl,h⟩
theorem zAq{a:Code}(h:Jc E rd sz a T C (Ex.then (λT C=>Jc E rd sz b T C Q) Q)):Jc E rd sz (.seq a b) T C Q:=by
 let⟨n,e,T1,cp,M,O⟩:=h
 cases e with
 | normal =>let⟨m,e2,T2,ea,h3,h4⟩:=O;refine⟨max n m+1,e2,T2,ea,?_,h4⟩;show (ob ((rV E (max n m)).code rd sz a T C) λr=>KT (rV E (max n m)) rd sz b r)=_;rw[(JN E (iP n m)).code M,ed];exact(JN E (jO n m)).code h3
 |ret=>exact⟨n+1,.ret,T1,cp,by show (ob ((rV E n).code rd sz a T C) λr=>KT (rV E n) rd sz b r)=_;rw[M,ed];rfl,O⟩
 |exit i=>exact⟨n+1,.exit i,T1,cp,by show (ob ((rV E n).code rd sz a T C) λr=>KT (rV E n) rd sz b r)=_;rw[M,ed];rfl,O⟩
theorem zvs(h:Jc E rd sz c T C (Ex.then (λT C=>Jc E rd sz (.loop c) T C Q) Q)):Jc E rd sz (.loop c) T C Q:=by
 let⟨n,e,T1,cp,M,O⟩:=h
 cases e with
 | normal =>let⟨m,e2,T2,ea,h3,h4⟩:=O;refine⟨max n m+1,e2,T2,ea,?_,h4⟩;show (ob ((rV E (max n m)).code rd sz c T C) λr=>KT (rV E (max n m)) rd sz (.loop c) r)=_;rw[(JN E (iP n m)).code M,ed];exact(JN E (jO n m)).code h3
 |ret=>exact⟨n+1,.ret,T1,cp,by show (ob ((rV E n).code rd sz c T C) λr=>KT (rV E n) rd sz (.loop c) r)=_;rw[M,ed];rfl,O⟩
 |exit i=>exact⟨n+1,.exit i,T1,cp,by show (ob ((rV E n).code rd sz c T C) λr=>KT (rV E n) rd sz (.loop c) r)=_;rw[M,ed];rfl,O⟩
theorem zvu{a:Code}(hq:bU T q=some (.bool t))(M:t=true->Jc E rd sz a T C Q)(O:t=false->Jc E rd sz b T C Q):Jc E rd sz (.cond q a b) T C Q:=by
 have key:∀ n,(rV E (n+1)).code rd sz (.cond q a b) T C=bi t ((rV E n).code rd sz a T C) ((rV E n).code rd sz b T C):=by intro n;show (ob (bU T q) λv=>ob v.bool? λt=>bi t ((rV E n).code rd sz a T C) ((rV E n).code rd sz b T C))=_;rw[hq];rfl
 cases t with
 | true =>let⟨n,e,T1,cp,h3,h4⟩:=M rfl;exact⟨n+1,e,T1,cp,by rw[key];exact h3,h4⟩
 | false =>
   let⟨n,e,T1,cp,h3,h4⟩:=O rfl;exact⟨n+1,e,T1,cp,by rw[key];exact h3,h4⟩
theorem zqU{id:Nat}(h:Jc E rd sz c T C (Ex.inBlock id Q)):Jc E rd sz (.block id c) T C Q:=by
 let⟨n,e,T1,cp,M,O⟩:=h;have key:(rV E (n+1)).code rd sz (.block id c) T C=WA id (e,T1,cp):=by show (ob ((rV E n).code rd sz c T C) λr=>WA id r)=_;rw[M];rfl
 cases e with
 |normal=>exact⟨n+1,_,_,_,key,O⟩
 |ret=>exact⟨n+1,_,_,_,key,O⟩
 | exit i =>
   by_cases hi:i=id;refine⟨n+1,.normal,T1,cp,?_,by simpa [Ex.inBlock,hi]using O⟩;rw[key];show bi (Nat.beq i id) _ _=_;grind [iV,beq_true];refine⟨n+1,.exit i,T1,cp,?_,by simpa [Ex.inBlock,hi]using O⟩;rw[key];show bi (Nat.beq i id) _ _=_;grind [iV,beq_true]
def Ro(E:Env)(sz:Nat)(ops l:Z Oper)(id:Nat)(T:PT V)(C:HS)(Q:PT V->HS->Prop):Prop:=∃ n T' a9,uX E (rV E n) sz ops l id T C=some (T',a9)/\Q T' a9
theorem Zk{id:Nat}{ops:Z Oper}(h:Ro E sz ops ops C.n T { H:=C.H,n:=C.n+ops.length,log:=C.log } λT C=>Q .normal T C):Jc E rd sz (.region id ops.toArray false) T C Q:=by
 let⟨n,T1,cp,M,O⟩:=h;refine⟨n+1,.normal,T1,cp,?_,O⟩;show (ob (bi false _ (uX E (rV E n) sz ops ops C.n T { H:=C.H,n:=C.n+dB ops,log:=C.log })) λr=>some (Ex.normal,r.1,r.2))=_;rw[il,dH,M];rfl
variable {ops:Z Oper}{id:Nat}{R:PT V->HS->Prop}
def zAm:Ro E sz ops [] id T C R=R T C:=propext ⟨λ⟨_,_,_,M,O⟩=>by cases M;exact O,λh=>⟨0,T,C,rfl,h⟩⟩
theorem zbm(h:∃ n r,wB E (rV E n) sz ops o id T C=some r/\Ro E sz ops l (id+1) r.1 r.2 R):Ro E sz ops (o::l) id T C R:=by
 let⟨n,⟨T1,cp⟩,M,m,T2,ea,O,h3⟩:=h;refine⟨max n m,T2,ea,?_,h3⟩;show (ob (wB E (rV E (max n m)) sz ops o id T C) λr=>uX E (rV E (max n m)) sz ops l (id+1) r.1 r.2)=_;rw[Yv (JN E (iP n m)) M,ed];exact UG (JN E (jO n m)) O
def put(sz:Nat)(T:PT V)(d:Y Tmp)(v:V)(K:PT V->Prop):Prop :=
 match d with
 |none=>K T
 |some d=>d<sz/\K (T.set d v)
theorem Z5{v:V}{K:PT V->Prop}(h:put sz T d v K):∃ T',KV sz T d v=some T'/\K T':=by
 cases d with
 |none=>exact⟨T,rfl,h⟩
 |some d=>exact⟨T.set d v,by show gd (Nat.blt d sz) _=_;rw[gz.2 h.1];rfl,h.2⟩
end
theorem znY{fn:Func}{vs:Z V}{T:PT V}{K:V->HS->Prop}(hf:E.P.funcs[f]?=some fn)(hb:fn.body=some c)(he:jH fn.ntmps vs 0 .leaf=some T)
 (h:Jc E false fn.ntmps c T C λex T' a9=>(∀ i,ex≠.exit i)/\ok (NL E.P T' a9 fn.results.toList) λl=>K (yx l) a9):∃ n v a9,(rV E n).call f vs C=some (v,a9)/\K v a9:=by
 let⟨n,ex,T',a9,M,O,l,h3,h4⟩:=h;refine⟨n+1,yx l,a9,?_,h4⟩;show (ob (E.P.funcs[f]?) λfn=>ob fn.body λc=>ob (jH fn.ntmps vs 0 .leaf) λT=>ob ((rV E n).code false fn.ntmps c T C) λr=>Vu E.P fn r)=_;grind [ed,Vu]
structure wA where
 d:Option Tmp
 op:Op
 g:Option (Tmp×Bool)
structure SD where
 d:Option Tmp
 op:Op
 g:Option (Tmp×Bool)
 lk:List Nat
inductive SC where
 |draw (l:List SD) (bs:List Nat)
 |skip|ret
 |exit (id:Nat)
 |zE (l:List wA)
 |seq (a b:SC)
 |cond (q:Operand) (a b:SC)
 |block (id:Nat) (a:SC)
 |loop (a:SC)
 |range (g:Operand) (ps:Array Tmp) (a b:SC)
def Mj (ops:Z Oper):Y (Nat×Bool)->Y (Y (Tmp×Bool))
 |none=>some none
 | some (j,w)=>match ops[j]? with
   | some p=>match p.dst with
     |some d=>some (some (d,w))
     |none=>none
   |none=>none
def ef (ops:Z Oper):Z Oper->Y (Z wA)
 | []=>some []
 | o::l=>match Mj ops o.guard,ef ops l with
   |some g,some r=>some (⟨o.dst,o.op,g⟩::r)
   |_,_=>none
def Ml (ops:Z Oper):Z Oper->Y (Z SD)
 | []=>some []
 | o::l=>match Mj ops o.guard,Ml ops l with
   |some g,some r=>some (⟨o.dst,o.op,g,looks ops o⟩::r)
   |_,_=>none
def aV:Code->Y SC
 | .region _ ops true=>match Ml ops.toList ops.toList,V5 ops.toList with
   |some l,some bs=>some (.draw l bs)
   |_,_=>none
 |.skip=>some .skip
 |.ret=>some .ret
 |.exit i=>some (.exit i)
 | .region _ ops false=>match ef ops.toList ops.toList with
   |some l=>some (.zE l)
   |none=>none
 | .seq a b=>match aV a,aV b with
   |some a,some b=>some (.seq a b)
   |_,_=>none
 | .cond q a b=>match aV a,aV b with
   |some a,some b=>some (.cond q a b)
   |_,_=>none
 | .block i a=>match aV a with
   |some a=>some (.block i a)
   |none=>none
 | .loop a=>match aV a with
   |some a=>some (.loop a)
   |none=>none
 | .rangeFunc g ps a b=>match aV a,aV b with
   |some a,some b=>some (.range g ps a b)
   |_,_=>none
 |_=>none
section
variable {rd:Bool}{sz:Nat}{T:PT V}{Q:Ex->PT V->HS->Prop}
def V.lA (v:V)(w:Bool):Y Bool:=match v with
 |.bool b=>some b
 |.tuple []=>some (!w)
 |_=>none
def V.zDs(v:V)(w:Bool):Y Bool:=match v with
 |.bool b=>some (Az b w)
 |.tuple []=>some false
 |_=>none
theorem V.qt {v:V}{w q:Bool}(h:v.lA w=some q):v.zDs w=some (Az q w):=by
 unfold V.lA at h;split at h;cases h;rfl;cases h;cases w<;>rfl
 cases h
def Dj (E:Env) (id:Nat) (T:PT V) (C:HS) (op:Op) (K:V->HS->Prop):Prop :=
 match op with
 | .call c=>match c.callee with
   |.builtin b=>(dX op≠0->C.H.get id=none)/\ok (kG T c.args.toList) λvs=>ok (qO E.P C id b c.argTypes.toList vs) λr=>K r.1 r.2
   |.value x=>C.H.get id=none/\ok (bU T x) λv=>ok (funcOf v) λp=>ok (kG T c.args.toList) λvs=>ok (E.dA p.1 (kg vs p.2) C) λr=>K r.1 r.2
   |.invoke _ _=>False
 |op=>(dX op≠0->C.H.get id=none)/\ok (UZ E.P false T C id (WY op)) λr=>K r.1 r.2
def wpS(E:Env)(id:Nat)(T:PT V)(C:HS)(s:wA)(K:V->HS->Prop):Prop :=
 match s.g with
 |none=>Dj E id T C s.op K
 |some (t,w)=>ok (T.get t) λv=>ok (v.lA w) λq=>if q=w then Dj E id T C s.op K else K oW C
def Rs(E:Env)(sz:Nat):Z wA->Nat->PT V->HS->(PT V->HS->Prop)->Prop
 | [],_,T,C,R=>R T C
 |s::l,id,T,C,R=>wpS E id T C s λv a9=>put sz T s.d v λT1=>Rs E sz l (id+1) T1 a9 R
theorem zmL {id:Nat} {op:Op} {K:V->HS->Prop} (h:Dj E id T C op K):(dX op≠0->C.H.get id=none) /\
 ((qN op=none/\ok (UZ E.P false T C id (WY op)) λr=>K r.1 r.2)\/(∃ c,qN op=some c/\ok (kG T c.args.toList) λvs =>
   (∃ b,c.callee=.builtin b/\ok (qO E.P C id b c.argTypes.toList vs) λr=>K r.1 r.2)\/∃ x f Ca,c.callee=.value x/\bU T x=some (.func f Ca)/\ok (E.dA f (kg vs Ca) C) λr=>K r.1 r.2)):=by
 unfold Dj at h;split at h;rename_i c;split at h;rename_i b hb;exact⟨h.1,.inr ⟨c,rfl,xq h.2 λvs hv=>.inl ⟨b,hb,hv⟩⟩⟩;rename_i x W;let⟨M,v,hv,p,hp,vs,fy,O⟩:=h;let⟨f,Ca⟩:=p;have e:v=.func f Ca:=by unfold funcOf at hp;split at hp;cases hp;rfl;cases hp
 subst e;exact⟨λ_=>M,.inr ⟨c,rfl,vs,fy,.inr ⟨x,f,Ca,W,hv,O⟩⟩⟩;exact h.elim;rename_i cg;refine⟨h.1,.inl ⟨?_,h.2⟩⟩;cases op<;>first|rfl|exact absurd rfl (cg _)
theorem zsA {ops:Z Oper} {id:Nat}   {K:PT V->HS->Prop} {q:Bool} (hw:xQ ops T o=some q)
 (h:if q=true then Dj E id T C o.op (λv a9=>put sz T o.dst v λT1=>K T1 a9)else put sz T o.dst oW λT1=>K T1 C) :
 ∃ r,wB E (rV E n) sz ops o id T C=some r/\K r.1 r.2:=by
 cases q with
 | false =>rw[if_neg (by simp)]at h;let⟨T1,h4,h5⟩:=Z5 h;refine⟨(T1,C),?_,h5⟩;show (ob (xQ ops T o) λw=>bi w _ _)=_;rw[hw,ed,il,h4];rfl
 | true =>
   rw[if_pos rfl]at h;let⟨M,O⟩:=zmL h;have hv:bi (Nat.beq (dX o.op) 0) true (gW C id)=true:=(by grind [iV,aK,beq_true]);have fin:∀ r:V×HS,cy E (rV E n) false T C id o=some r->(put sz T o.dst r.1 λT1=>K T1 r.2)->∃ r,wB E (rV E n) sz ops o id T C=some r/\K r.1 r.2:=(by intro r eK hp;let⟨T1,h4,h5⟩:=Z5 hp;refine⟨(T1,r.2),?_,h5⟩;show (ob (xQ ops T o) λw=>bi w _ _)=_;grind [ed,iR,rE]);rcases O with⟨hc,r,O,h3⟩|⟨c,hc,vs,fy,O⟩;exact fin r (by unfold cy;rw[hc];exact O) h3;rcases O with⟨b,hb,r,O,h3⟩|⟨x,f,Ca,W,hxv,r,O,h3⟩;refine fin r ?_ h3;unfold cy;rw[hc];show (ob (kG T c.args.toList) λvs=>_)=_;grind [ed];refine fin r ?_ h3;unfold cy;rw[hc];show (ob (kG T c.args.toList) λvs=>_)=_;grind [ed,ob,bU,Mc,rV,Gd,kg,kX]
theorem zqP {ops:Z Oper}:∀ {l:Z Oper} {s:Z wA} {id:Nat} {T:PT V} {C:HS} {R:PT V->HS->Prop},ef ops l=some s->Rs E sz s id T C R->Ro E sz ops l id T C R:=by
 intro l
 induction l with
 | nil =>intro s id T C R h hr;cases h;rw[zAm];exact hr
 | cons o l ih =>
   intro s id T C R h hr;unfold ef at h;split at h;rename_i g r hg hl;cases h;have E2:wpS E id T C ⟨o.dst,o.op,g⟩ λv a9=>put sz T o.dst v λT1=>Rs E sz r (id+1) T1 a9 R:=hr;unfold wpS at E2;have eK:∃ q,xQ ops T o=some q/\(if q=true then Dj E id T C o.op (λv a9=>put sz T o.dst v λT1=>Rs E sz r (id+1) T1 a9 R)else put sz T o.dst oW λT1=>Rs E sz r (id+1) T1 C R):=(by unfold Mj at hg;split at hg;rename_i cX;cases hg;refine⟨true,?_,by rw[if_pos rfl];exact E2⟩;unfold xQ;rw[cX];rfl;rename_i j w cX;split at hg;rename_i p hp;split at hg;rename_i d hd;cases hg;obtain⟨v,hv,q,hq,O⟩:=E2;refine⟨Az q w,?_,?_⟩;unfold xQ;rw[cX,kX];show (ob (wu ops j) λp=>_)=_;rw[sP,hp,ed,hd,ed,hv,ed];exact V.qt hq;by_cases e:q=w;rw[if_pos e]at O;rw[if_pos (by rw[e];cases w<;>rfl)];exact O;rw[if_neg e]at O;rw[if_neg (by revert e;cases w<;>cases q<;>simp[Az,bi,nt])];exact O;cases hg;cases hg);obtain⟨q,hw,h3⟩:=eK;obtain⟨r1,h4,h5⟩:=zsA (n:=0) hw h3;grind [zbm];cases h
def Js(E:Env)(rd:Bool)(sz:Nat)(s:SC)(T:PT V)(C:HS)(Q:Ex->PT V->HS->Prop):Prop:=∀ c,aV c=some s->Jc E rd sz c T C Q
def zi5{s:SC}{Q':Ex->PT V->HS->Prop}(h:Js E rd sz s T C Q)(hq:∀ e T C,Q e T C->Q' e T C):Js E rd sz s T C Q':=λc hc=>Pv (h c hc) hq
theorem jl{s:SC}(h:aV c=some s):match s with
 |.draw l bs=>∃ id ops,c=.region id ops true/\Ml ops.toList ops.toList=some l/\V5 ops.toList=some bs
 |.skip=>c=.skip
 |.ret=>c=.ret
 |.exit i=>c=.exit i
 |.zE l=>∃ id ops,c=.region id ops false/\ef ops.toList ops.toList=some l
 |.seq a b=>∃ x y,c=.seq x y/\aV x=some a/\aV y=some b
 |.cond q a b=>∃ x y,c=.cond q x y/\aV x=some a/\aV y=some b
 |.block i a=>∃ x,c=.block i x/\aV x=some a
 |.loop a=>∃ x,c=.loop x/\aV x=some a
 |.range g ps a b=>∃ x y,c=.rangeFunc g ps x y/\aV x=some a/\aV y=some b:=by
 cases c with
 |skip=>cases h;rfl
 |ret=>cases h;rfl
 |exit i=>cases h;rfl
 | region id ops draw =>
   cases draw with
   | true =>grind [aV,id]
   | false =>grind [aV,id]
 | seq x y =>grind [aV]
 | cond q x y =>grind [aV]
 | block i x =>grind [aV]
 | rangeFunc g ps x y =>grind [aV]
 | loop x =>grind [aV]
 |_=>cases h
def zbo(h:Q .normal T C):Js E rd sz .skip T C Q:=λc hc=>by have e:c=.skip:=jl hc;rw[e];exact zvr h
def zqT(h:Q .ret T C):Js E rd sz .ret T C Q:=λc hc=>by have e:c=.ret:=jl hc;rw[e];exact zAr h
def zi7(h:Q (.exit i) T C):Js E rd sz (.exit i) T C Q:=λc hc=>by have e:c=.exit i:=jl hc;rw[e];exact zvt h
def Kk{a b:SC}(h:Js E rd sz a T C (Ex.then (λT C=>Js E rd sz b T C Q) Q)):Js E rd sz (.seq a b) T C Q:=λc hc=>by
 obtain⟨x,y,rfl,W,hy⟩:=jl hc;refine zAq (Pv (h x W) λe T C he=>?_)
 cases e with
 |normal=>exact he y hy
 |ret=>exact he
 |exit i=>exact he
def Pt{a b:SC}(hq:bU T q=some (.bool t))(M:t=true->Js E rd sz a T C Q)(O:t=false->Js E rd sz b T C Q):Js E rd sz (.cond q a b) T C Q:=λc hc=>by
 obtain⟨x,y,rfl,W,hy⟩:=jl hc;exact zvu hq (λh=>M h x W) (λh=>O h y hy)
def WW{id:Nat}{a:SC}(h:Js E rd sz a T C (Ex.inBlock id Q)):Js E rd sz (.block id a) T C Q:=λc hc=>by
 obtain⟨x,rfl,W⟩:=jl hc;exact zqU (h x W)
def zi6{a:SC}(h:Js E rd sz a T C (Ex.then (λT C=>Js E rd sz (.loop a) T C Q) Q)):Js E rd sz (.loop a) T C Q:=λc hc=>by
 obtain⟨x,rfl,W⟩:=jl hc;refine zvs (Pv (h x W) λe T C he=>?_)
 cases e with
 |normal=>exact he _ hc
 |ret=>exact he
 |exit i=>exact he
theorem QZ{l:Z wA}(h:Rs E sz l C.n T { H:=C.H,n:=C.n+l.length,log:=C.log } λT C=>Q .normal T C):Js E rd sz (.zE l) T C Q:=λc hc=>by
 obtain⟨id,ops,rfl,hl⟩:=jl hc
 have hlen:∀ {m:Z Oper} {s:Z wA},ef ops.toList m=some s->s.length=m.length:=by
  intro m
  induction m with
  |nil=>intro s h;cases h;rfl
  | cons o m ih =>intro s h;unfold ef at h;split at h;rename_i g r hg hr;cases h;simp[ih hr];cases h
 rw[hlen hl]at h;have:=Zk (id:=id) (rd:=rd) (Q:=Q) (zqP hl h);simpa using this
def zmN (E:Env) (id:Nat) (T:PT V) (C:HS) (op:Op) (K:V->HS->Z Nat×Z Nat->Prop):Prop :=
 match dX op with
 | 0 => match op with
   | .call c=>match c.callee with
     |.builtin b=>ok (kG T c.args.toList) λvs=>ok (qO E.P { H:=iC C.H (cP T op),n:=0,log:=[] } id b c.argTypes.toList vs) λr=>K r.1 C (cP T op,[])
     |_=>False
   |op=>ok (UZ E.P true T { H:=iC C.H (cP T op),n:=0,log:=[] } id (WY op)) λr=>K r.1 C (cP T op,[])
 | 1=>C.H.get id=none/\ok (UZ E.P true T { H:=.leaf,n:=0,log:=[] } id (WY op)) λr=>ok (r.2.H.get id) λo'=>o'.fz=false/\K r.1 (C.put id o') ([id],[])
 | _ => C.H.get id=none/\(match op with
   | .call c=>match c.callee with
     |.builtin b=>ok (kG T c.args.toList) λvs=>ok (qO E.P { H:=C.H,n:=C.n,log:=[] } id b c.argTypes.toList vs) λr=>K r.1 { H:=r.2.H,n:=r.2.n,log:=kg r.2.log C.log } ([],r.2.log)
     |.value x=>ok (bU T x) λv=>ok (funcOf v) λp=>ok (kG T c.args.toList) λvs=>ok (E.dA p.1 (kg vs p.2) { H:=C.H,n:=C.n,log:=[] }) λr=>K r.1 { H:=r.2.H,n:=r.2.n,log:=kg r.2.log C.log } ([],r.2.log)
     |.invoke _ _=>False
   |op=>ok (UZ E.P true T { H:=C.H,n:=C.n,log:=[] } id (WY op)) λr=>K r.1 { H:=r.2.H,n:=r.2.n,log:=kg r.2.log C.log } ([],r.2.log))
def Np(E:Env)(id:Nat)(T:PT V)(C:HS)(op:Op)(K:V->HS->Z Nat×Z Nat->Prop):Prop :=
 match op with
 |.store t a x=>C.H.get id=none/\ok (nL E.P T { H:=iC C.H (sD T C (.store t a x)),n:=0,log:=[] } t a x) λr=>K r.1 { H:=Jp C.H r.2.H (sD T C (.store t a x)),n:=C.n,log:=kg r.2.log C.log } (sD T C (.store t a x),r.2.log)
 |op=>zmN E id T C op K
def zex(E:Env)(id:Nat)(T:PT V)(C:HS)(s:SD)(K:V->HS->Z Nat×Z Nat->Prop):Prop :=
 match s.g with
 |none=>Np E id T C s.op K
 |some (t,w)=>ok (T.get t) λv=>ok (v.lA w) λq=>if q=w then Np E id T C s.op K else K oW C ([],[])
def Rd(E:Env)(sz:Nat):Z SD->Nat->PT V->HS->Z (Z Nat×Z Nat)->(PT V->HS->Z (Z Nat×Z Nat)->Prop)->Prop
 | [],_,T,C,acc,R=>R T C acc
 |s::l,id,T,C,acc,R=>zex E id (iC T s.lk) C s λv a9 rw=>put sz T s.d v λT1=>Rd E sz l (id+1) T1 a9 (kg acc [rw]) R
theorem zmM {id:Nat}   {K:V->HS->Z Nat×Z Nat->Prop} (h:zmN E id T C o.op K):∃ r,Aw E (rV E n) o id T C=some r/\K r.1 r.2.1 r.2.2:=by
 unfold zmN at h;have ey:∀ {eR:HS} {c:Call} {b:Builtin} {vs:Z V} {r:V×HS},qN o.op=some c->c.callee=.builtin b->kG T c.args.toList=some vs->qO E.P eR id b c.argTypes.toList vs=some r->cy E (rV E n) true T eR id o=some r:=by intro eR c b vs r M O h3 h4;unfold cy;rw[M];show (ob (kG T c.args.toList) λvs=>_)=_;rw[h3,ed,O];exact h4
 have lP:∀ {eR:HS} {r:V×HS},qN o.op=none->UZ E.P true T eR id (WY o.op)=some r->cy E (rV E n) true T eR id o=some r:=by intro eR r M O;unfold cy;rw[M];exact O
 have ft:∀ {op:Op},(∀ c,op≠.call c)->qN op=none:=by intro op h;cases op<;>first|rfl|exact absurd rfl (h _)
 split at h;rename_i hc;have key:∀ r:V×HS,cy E (rV E n) true T { H:=iC C.H (cP T o.op),n:=0,log:=[] } id o=some r->Aw E (rV E n) o id T C=some (r.1,C,cP T o.op,[]):=by intro r hr;unfold Aw;rw[hc];show (ob (cy E (rV E n) true T { H:=iC C.H (cP T o.op),n:=0,log:=[] } id o) λr=>some (r.1,C,cP T o.op,[]))=_;rw[hr];rfl
 split at h;rename_i c ua;split at h;rename_i b hb;let⟨vs,fy,r,hr,hk⟩:=h;have tf:qN o.op=some c:=by rw[ua];rfl
 exact⟨_,key r (ey tf hb fy hr),hk⟩;exact h.elim;rename_i cg;let⟨r,hr,hk⟩:=h;exact⟨_,key r (lP (ft cg) hr),hk⟩;rename_i hc;let⟨h0,r,hr,o',ho,hz,hk⟩:=h;refine⟨(r.1,C.put id o',[id],[]),?_,hk⟩;unfold Aw;rw[hc];show (gd (gW C id) (ob (cy E (rV E n) true T { H:=.leaf,n:=0,log:=[] } id o) λr=>ob (r.2.H.get id) λo'=>gd (nt o'.fz) (some (r.1,C.put id o',[id],[]))))=_;rw[aK.2 h0,rE,lP (Sj hc) hr,ed,ho,ed,hz];rfl;rename_i wk C1;let⟨h0,h⟩:=h;have hc:dX o.op=2:=by rcases U0 o.op with h|h|h;exact absurd h wk;exact absurd h C1;exact h
 have key:∀ r:V×HS,cy E (rV E n) true T { H:=C.H,n:=C.n,log:=[] } id o=some r->Aw E (rV E n) o id T C=some (r.1,{ H:=r.2.H,n:=r.2.n,log:=kg r.2.log C.log },[],r.2.log):=by intro r hr;unfold Aw;rw[hc];show (gd (gW C id) (ob (cy E (rV E n) true T { H:=C.H,n:=C.n,log:=[] } id o) λr=>some (r.1,({ H:=r.2.H,n:=r.2.n,log:=kg r.2.log C.log }:HS),([]:Z Nat),r.2.log)))=_;rw[aK.2 h0,rE,hr];rfl
 split at h;rename_i c ua;have tf:qN o.op=some c:=by rw[ua];rfl
 split at h;rename_i b hb;let⟨vs,fy,r,hr,hk⟩:=h;exact⟨_,key r (ey tf hb fy hr),hk⟩;rename_i x W;let⟨v,hv,p,hp,vs,fy,r,hr,hk⟩:=h;let⟨f,Ca⟩:=p
 have e:v=.func f Ca:=by unfold funcOf at hp;split at hp;cases hp;rfl;cases hp
 subst e;refine⟨_,key r ?_,hk⟩;unfold cy;rw[tf];show (ob (kG T c.args.toList) λvs=>_)=_;rw[fy,ed,W];show (ob (bU T x) λv=>Mc E (rV E n) v vs _)=_;rw[hv,ed];show Gd E (rV E n) f (kg vs Ca) _=some r;unfold Gd;rw[hr,kX];exact h.elim;rename_i cg;let⟨r,hr,hk⟩:=h;exact⟨_,key r (lP (ft cg) hr),hk⟩
theorem zhh{id:Nat}{K:V->HS->Z Nat×Z Nat->Prop}(h:Np E id T C o.op K):∃ r,A9 E (rV E n) o id T C=some r/\K r.1 r.2.1 r.2.2:=by
 unfold Np at h;unfold A9;split at h;rename_i t a x lP;let⟨h0,r,hr,hk⟩:=h;have eR:lS o.op=true:=by rw[lP];rfl
 rw[eR,iR];unfold QC;rw[aK.2 h0,rE,lP,Be lP,hr,ed];grind;rename_i cg;have eR:lS o.op=false:=by simp[lS]
 rw[eR,il];exact zmM h
theorem zHn {ops:Z Oper} :∀ {l:Z Oper} {s:Z SD} {id:Nat} {T:PT V} {C:HS} {acc:Z (Z Nat×Z Nat)} {R:PT V->HS->Z (Z Nat×Z Nat)->Prop},Ml ops l=some s->Rd E sz s id T C acc R ->
 ∃ T' a9 tA,xc E (rV E n) sz ops l id T C acc=some ((T',a9),tA)/\R T' a9 tA:=by
 intro l
 induction l with
 | nil =>intro s id T C acc R h hr;cases h;exact⟨T,C,acc,rfl,hr⟩
 | cons o l ih =>
   intro s id T C acc R h hr;unfold Ml at h;split at h;rename_i g r hg hl;cases h;have E2:zex E id (iC T (looks ops o)) C ⟨o.dst,o.op,g,looks ops o⟩ λv a9 rw=>put sz T o.dst v λT1=>Rd E sz r (id+1) T1 a9 (kg acc [rw]) R:=hr;unfold zex at E2;have eK:∃ q,lg E (rV E n) ops o id (iC T (looks ops o)) C=some q/\put sz T o.dst q.1 λT1=>Rd E sz r (id+1) T1 q.2.1 (kg acc [q.2.2]) R:=(by unfold Mj at hg;split at hg;rename_i cX;cases hg;obtain⟨q,M,O⟩:=zhh (n:=n) E2;refine⟨q,?_,O⟩;have hw:xQ ops (iC T (looks ops o)) o=some true:=(by unfold xQ;rw[cX];rfl);grind [lg,ed,iR];rename_i j w cX;split at hg;rename_i p hp;split at hg;rename_i d hd;cases hg;obtain⟨v,hv,q,hq,O⟩:=E2;have hw:xQ ops (iC T (looks ops o)) o=some (Az q w):=(by unfold xQ;rw[cX,kX];show (ob (wu ops j) λp=>_)=_;rw[sP,hp,ed,hd,ed,hv,ed];exact V.qt hq);by_cases e:q=w;rw[if_pos e]at O;obtain⟨q1,h3,h4⟩:=zhh (n:=n) O;refine⟨q1,?_,h4⟩;unfold lg;rw[hw,ed,show Az q w=true by rw[e];cases w<;>rfl,iR];exact h3;rw[if_neg e]at O;refine⟨(oW,C,[],[]),?_,O⟩;unfold lg;rw[hw,ed,show Az q w=false by revert e;cases w<;>cases q<;>simp[Az,bi,nt],il];cases hg;cases hg);obtain⟨q,M,O⟩:=eK;obtain⟨T1,h3,h4⟩:=Z5 O;obtain⟨T',a9,tA,h5,h6⟩:=ih hl h4;refine⟨T',a9,tA,?_,h6⟩;show (ob (lg E (rV E n) ops o id (iC T (looks ops o)) C) λr=>ob (KV sz T o.dst r.1) λT'=>xc E (rV E n) sz ops l (id+1) T' r.2.1 (kg acc [r.2.2]))=_;grind [ed];cases h
theorem zi8{l:Z SD}(h:Rd E sz l C.n T { H:=C.H,n:=C.n+l.length,log:=C.log } [] λT C acc=>wV acc acc 0 bs=true/\Q .normal T C):Js E rd sz (.draw l bs) T C Q:=λc hc=>by
 obtain⟨id,ops,rfl,hl,hb⟩:=jl hc
 have hlen:∀ {m:Z Oper} {s:Z SD},Ml ops.toList m=some s->s.length=m.length:=by
  intro m
  induction m with
  |nil=>intro s h;cases h;rfl
  | cons o m ih =>intro s h;unfold Ml at h;split at h;rename_i g r hg hr;cases h;simp[ih hr];cases h
 rw[hlen hl]at h;let⟨T',a9,tA,M,O,h3⟩:=zHn (n:=0) hl h;refine⟨1,.normal,T',a9,?_,h3⟩;show (ob (bi true (R4 E (rV E 0) sz ops.toList T C) _) λr=>some (Ex.normal,r.1,r.2))=_;rw[iR];have hd:R4 E (rV E 0) sz ops.toList T C=some (T',a9):=by show (ob (V5 ops.toList) λbs=>ob (xc E (rV E 0) sz ops.toList ops.toList C.n T { H:=C.H,n:=C.n+dB ops.toList,log:=C.log } []) λr=>gd (wV r.2 r.2 0 bs) (some r.1))=_;rw[hb,ed,dH,M,ed,O,rE]
 rw[hd];rfl
end
def zjW{fn:Func}{s:SC}{vs:Z V}{T:PT V}{K:V->HS->Prop}(hf:E.P.funcs[f]?=some fn)(hb:fn.body.bind aV=some s)(he:jH fn.ntmps vs 0 .leaf=some T)
 (h:Js E false fn.ntmps s T C λex T' a9=>(∀ i,ex≠.exit i)/\ok (NL E.P T' a9 fn.results.toList) λl=>K (yx l) a9):∃ n v a9,(rV E n).call f vs C=some (v,a9)/\K v a9:=by
 cases hc:fn.body with
 |none=>rw[hc]at hb;cases hb
 |some c=>rw[hc]at hb;exact znY hf hc he (h c hb)
def Leaves(P:Program)(fn:Func)(K:V->HS->Prop)(ex:Ex)(T:PT V)(C:HS):Prop:=(∀ i,ex≠.exit i)/\ok (NL P T C fn.results.toList) λl=>K (yx l) C
def WV{fn:Func}{K:V->HS->Prop}{T:PT V}:Leaves P fn K .ret T C=ok (NL P T C fn.results.toList) λl=>K (yx l) C :=
 propext ⟨λh=>h.2,λh=>⟨λi h=>(by cases h),h⟩⟩
def L9{fn:Func}{K:V->HS->Prop}{T:PT V}:Leaves P fn K .normal T C=ok (NL P T C fn.results.toList) λl=>K (yx l) C :=
 propext ⟨λh=>h.2,λh=>⟨λi h=>(by cases h),h⟩⟩
end Go.J
