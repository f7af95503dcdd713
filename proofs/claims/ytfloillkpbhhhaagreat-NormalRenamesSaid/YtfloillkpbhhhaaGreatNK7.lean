import Derived.Test.YtfloillkpbhhhaaGreatNK6
import Derived.Test.YtfloillkpbhhhaaGreatJK10
import Derived.Test.YtfloillkpbhhhaaGreatNK5
import Derived.Test.YtfloillkpbhhhaaGreatJK13
import Derived.Test.YtfloillkpbhhhaaGreatNK4
set_option linter.all false
noncomputable section
namespace Go.Proofs.YtfloillkpbhhhaaGreat
open Go.J
open Go.J.bo (enc)
set_option maxRecDepth 100000
set_option maxHeartbeats 4000000
variable {Q:Ex->PT V->HS->Prop}{C:HS}{ek ep:Int}{c d g i m n r:Nat}{F:Nat->Z Nat}{T0:PT V}{s:SC}{v:V}{e x:Xp}{B N T o cb:Z (Z Nat)}{t:Z (Z V)}{cq er:Z Am}{l:Z Entry}{b6:Z Int}{en:Z Nat}{KS L ks:Z Xp}
@[simp] def Xc (ek ep:Int) (en:Z Nat) (em:Int) (kv av:V) (t:G):J.Obj:=.arr 11 0 [[.int .i64 ek,.int .i64 ep,.str en,.int .i64 em,kv,av,.int .i64 t.kind,.str t.name,.int .i64 t.id,.int .i64 t.home,.sl (t.args.map aA) false]] true false false
@[simp] def zO:J.Obj:=.arr 11 0 [[.int .i64 0,.int .i64 0,.str [],.int .i64 0,.a8,.a8,.int .i64 0,.str [],.int .i64 0,.int .i64 0,.a8]] true false false
def NU(e:Xp):V×Z (Nat×J.Obj):=if e.kids=[]then (.a8,[])else Xs 11 e.b8.length ((BX e).map bP)
def zkd:(FU [enc e] (NU e)).Good:=by
 unfold NU;split;exact FT (by simp) rfl (λp hp=>by cases hp) rfl
 exact FT (by simp) rfl (λp hp=>by
  simp only[Xs,ag]at hp;subst hp
  exact⟨NV _,rfl⟩) rfl
section
variable {I:Nat->Value}(hρ:J.Good I)
include hρ
section
variable {E:Env}(U:E.P=Pg)(aq:bK I E)
include U aq
def zd{k sz:Nat}{T:PT V}(h:∀ K,Wp I E k sz s T C (Ex.then K Q)):Ls I E k sz (.loop s) T C Q:=qy (n:=1) (lp hρ U aq λK _=>h K)
def ztB(hv:E5 e)(nN:∀ i,i<(NU e).2.length->C.H.get (C.n+i)=none):aS I Pg 138 [enc e] C ((FU [enc e] (NU e)).val C) ((FU [enc e] (NU e)).heap C):=by
 refine em hρ U aq Tryz.func138 Iu.2 rfl zkd ?_ (Yc (by simp) nN);show Wp I E 0 _ _ _ { H:=dP [],n:=0,log:=[] } (J.Leaves E.P _ (aJ 0 (NU e).1 (NU e).2));clear nN;let⟨g1,g2,g3⟩:=yu hv;generalize hR:NU e=R;unfold NU BX at hR;let⟨ek,ep,en,em,ks,cq,et⟩:=e;simp only[Xp.kL,Xp.lh]at g1 g2 g3 hR
 cases ks with
 | nil =>obtain rfl:=g3 rfl;simp[U,bq];refine zd hρ U aq λK=>?_;simp[U,<- hR];exact aJ.auto
 | cons k ks =>
   have M:(ks.length+1)*152<=1048576:=(by simp only[aL]at g1;omega);simp only[aL]at g1;simp[U,bq,M]
   refine rA hρ U aq cq.length (nn:=2) (λj (_:Unit)=>[(1,.ptr 0 0 0),(3,.own 1 j 0 (ks.length+1+j) none),(4,.int .i64 (j:Int))])
    (λj _=>[(0,Xc ek ep en em (.sl (bP k::ks.map bP) false) (.sl (cq.map dW) false) et),(1,.arr 11 j ((k::ks++(cq.map Am.body).take j).map bP) false false true)]) (λj _=>True) () (aw.auto (hH:=by simp[bq])) trivial ?_ ?_
   intro _ _ K;have sx:(cq.map Am.body).take cq.length=cq.map Am.body:=aP (by simp);rw[sx];have Em:(k::ks++cq.map Am.body).length=ks.length+1+cq.length:=(by simp;omega);rw[if_neg (by simp)]at hR;generalize k::ks++cq.map Am.body=L at Em hR;simp[U];refine bM.mk (aw.auto (TL:=[(3,.own 0 cq.length 0 (ks.length+1+cq.length) none)]) (HL:=[(0,.arr 11 cq.length (L.map bP) false false true)]) (n:=1)) ?_;simp[U,<- hR,Xs,Em];exact aJ.auto;intro j _ hj _ K hK;have gO:(j:Int)<cq.length:=(by omega);have cr:=bG (i:=j);have m1:j*14 / 14=j:=(by omega);have m2:j*14 % 14=0:=(by omega);have m3:(j*14+3) / 14=j:=(by omega);have m4:(j*14+3) % 14=3:=(by omega);have aE:=hK () trivial;have S6:(cq.map Am.body).take (j+1)=(cq.map Am.body).take j++[cq[j].body]:=(by rw[df (by simpa using hj),iD]);have Em:(k::ks++(cq.map Am.body).take j).length=ks.length+1+j:=(by simp;omega);rw[S6,<- fA,show ks.length+1+(j+1)=ks.length+1+j+1 by omega]at aE;generalize k::ks++(cq.map Am.body).take j=L at Em aE;rw[<- Em]at aE ⊢;have eA:(L.length+1)*152<=1048576:=aO (aQ 152 (show L.length+1<=6000 by omega)) (by decide);have gE:List.take L.length (L.map bP)=L.map bP:=aP (by simp);obtain⟨a,ha⟩:∃ a,cq[j]=a:=⟨_,rfl⟩;rw[ha]at aE;let⟨ap,ac,av,⟨bk,bp,bn,bm,bl,ba,⟨tk,tn,ti,th,tl⟩⟩⟩:=a;simp only[Am.EO]at aE;simp[U,hj,gO,m1,m2,m3,m4,ha,ik,eA,gE,cr,bf,-Int.natCast_add];exact aE _ _ (aw.auto (hH:=by simp[bq]))
end
end
def ZO(e:Xp)(kv av:V):V:=.agg [.int .i64 e.kind,.int .i64 e.pos,.str e.name,.int .i64 e.num,kv,av,.int .i64 e.type.kind,.str e.type.name,.int .i64 e.type.id,.int .i64 e.type.home,.sl (e.type.args.map aA) false]
def L3(l:Z Am)(cs:Z Xp):Z Am:=List.zipWith (λa b=>.mk a.pos a.dA a.vars b) l cs
def P5(e:Xp)(cs:Z Xp):V×Z (Nat×J.Obj):=if e.kids=[]then (ZO e .a8 .a8,[])else if e.b8=[]then (ZO e (.own 0 0 0 e.kids.length none) .a8,[(0,.arr 11 0 ((cs.take e.kids.length).map bP) false false true)])
 else (ZO e (.own 0 0 0 e.kids.length none) (.own 1 0 0 e.b8.length none),[(0,.arr 11 0 ((cs.take e.kids.length).map bP) false false true),(1,.arr 14 0 ((L3 e.b8 (cs.drop e.kids.length)).map dW) false false true)])
def zjV{cs:Z Xp}:(FU [enc e,enc cs] (P5 e cs)).Good:=by
 unfold P5;split;exact FT (by simp) rfl (λp hp=>by cases hp) (by simp[ZO]);split;refine FT (by simp) rfl (λp hp=>?_) (by simp[ZO]);simp only[ag]at hp;subst hp;exact⟨NV _,rfl⟩;refine FT (by simp) rfl (λp hp=>?_) (by simp[ZO]);simp only[ay,aU,or_false]at hp;rcases hp with rfl|rfl;exact⟨NV _,rfl⟩;exact⟨zcH _,rfl⟩
section
variable {I:Nat->Value}(hρ:J.Good I)
include hρ
section
variable {E:Env}(U:E.P=Pg)(aq:bK I E)
include U aq
def ztx  {cs:Z Xp} (hv:E5 e) (hc:cs.length=e.kids.length+e.b8.length)  (nN:∀ i,i<(P5 e cs).2.length->C.H.get (C.n+i)=none):aS I Pg 149 [enc e,enc cs] C ((FU [enc e,enc cs] (P5 e cs)).val C) ((FU [enc e,enc cs] (P5 e cs)).heap C):=by
 refine em hρ U aq Tryz.func149 SA.2 rfl zjV ?_ (Yc (by simp) nN);show Wp I E 0 _ _ _ { H:=dP [],n:=0,log:=[] } (J.Leaves E.P _ (aJ 0 (P5 e cs).1 (P5 e cs).2));clear nN;obtain⟨g1,g2,g3⟩:=yu hv;generalize hR:P5 e cs=R;unfold P5 ZO at hR;obtain⟨ek,ep,en,em,ks,cq,et⟩:=e;simp only[Xp.kL,Xp.lh,Xp.fH,Xp.pos_mk,Xp.j4,Xp.U2,Xp.Nu]at g1 g2 g3 hR hc
 cases ks with
 | nil =>obtain rfl:=g3 rfl;obtain rfl:cs=[]:=bV (by simpa using hc);have On:IntKind.i64.wrap 0=0:=wrap_i64 (by omega) (by omega);simp[U,bq,On,xE,Cy,bounds,NZ,fE,Ab];refine zd hρ U aq λK=>?_;simp[U,<- hR];exact aJ.auto
 | cons k ks =>
   have kA:k::ks≠[]:=(by simp);rw[if_neg kA]at hR;generalize k::ks=K at *;obtain⟨n,hn⟩:∃ n,K.length=n:=⟨_,rfl⟩;obtain⟨m,hm⟩:∃ m,cq.length=m:=⟨_,rfl⟩;have On:IntKind.i64.wrap ((n:Int)+(m:Int))=((n+m:Nat):Int):=(by rw[wrap_i64 (by omega) (by omega)];omega);have ew:(cs.length:Int)=((n+m:Nat):Int):=(by rw[hc,hn,hm]);have fL:n<=cs.length:=(by omega);have qS:n*152<=1048576:=(by omega);have xf:m*200<=1048576:=(by omega);have hwn:IntKind.i64.wrap (n:Int)=n:=wrap_i64 (by omega) (by omega);have hn0:¬ n=0:=λe=>kA (bV (hn.trans e));obtain⟨ps,oX⟩:∃ ps,cs.take n=ps:=⟨_,rfl⟩;have sR:ps.length=n:=(by rw[<- oX,dR];omega);have gE:List.take n (cs.map bP)=ps.map bP:=(by rw[<- qB,oX]);by_cases fW:m=0;obtain rfl:cq=[]:=bV (hm.trans fW);subst fW;rw[if_pos rfl]at hR;simp only[hn,oX]at hR;simp[U,bq,hn,ew,hwn,xE,Cy,bounds,NZ,fE,Ab,fL,gE,hn0,qS,sR,-Int.natCast_add,-List.map_take];refine zd hρ U aq λK=>?_;simp[U,<- hR];exact aJ.auto;have wv:cq≠[]:=λe=>fW (by rw[<- hm,e];rfl);rw[if_neg wv]at hR;simp only[hn,hm,oX]at hR;simp[U,bq,hn,hm,fW,ew,On,xE,Cy,bounds,NZ,fE,Ab,fL,gE,hn0,qS,xf,sR,-Int.natCast_add,-List.map_take];obtain⟨pS,hZ⟩:∃ pS,L3 cq (cs.drop n)=pS:=⟨_,rfl⟩;have zMk:pS.length=m:=(by rw[<- hZ];simp[L3];omega);rw[hZ]at hR;refine rA hρ U aq m (nn:=5) (λj (_:Unit)=>[(1,.sl (cs.map bP) false),(4,.ptr 1 0 0),(5,.int .i64 (n:Int)),(6,.ptr 2 0 0),(7,.int .i64 (j:Int))]) (λj _=>[(1,zO),(2,Xc ek ep en em (.own 3 0 0 n none) (.own 4 0 0 m none) et),(3,.arr 11 0 (ps.map bP) false false true),(4,.arr 14 0 ((pS.take j++cq.drop j).map dW) false false true)]) (λi _=>True) () (aw.auto) trivial ?_ ?_;intro _ _ K;rw[show pS.take m++cq.drop m=pS by rw[<- hm,bz,fq,hm,<- zMk,gm]];simp[U];refine bM.mk (aw.auto (TL:=[(4,.ptr 1 0 0),(6,.ptr 2 0 0)]) (HL:=[(1,zO),(2,Xc ek ep en em (.own 3 0 0 n none) (.own 4 0 0 m none) et),(3,.arr 11 0 (ps.map bP) false false true),(4,.arr 14 0 (pS.map dW) false false true)]) (n:=5)) ?_;simp[U,<- hR];exact aJ.auto;intro j _ hj _ K hK;have aE:=hK () trivial;have gO:(j:Int)<m:=(by omega);have cr:=bG (i:=j);have E1:IntKind.i64.wrap ((n:Int)+(j:Int))=((n+j:Nat):Int):=(by rw[wrap_i64 (by omega) (by omega)];omega);have zI7:n+j<cs.length:=(by omega);have zQe:((n+j:Nat):Int)<((n+m:Nat):Int):=(by omega);have zQf:(0:Int)<=((n+j:Nat):Int):=(by omega);obtain⟨er,hW⟩:∃ er,pS.take j++cq.drop j=er:=⟨_,rfl⟩;have sf:(pS.take j).length=j:=(by rw[dR];omega);have hja:j<cq.length:=(by omega);have zGi:er.length=m:=(by rw[<- hW,aR,sf,wm];omega);obtain⟨a,ha⟩:∃ a,cq[j]=a:=⟨_,rfl⟩;obtain⟨d,hd⟩:∃ d,cs[n+j]=d:=⟨_,rfl⟩;rw[aG hja,ha]at hW;have hWj:er[j]'(by omega)=a:=(by subst hW;rw[jZ (by omega)];simp[sf]);have zJc:pS.take (j+1)++cq.drop (j+1)=er.set j (.mk a.pos a.dA a.vars d):=(by have zQw:pS[j]'(by omega)=.mk a.pos a.dA a.vars d:=(by subst hZ;simp[L3,ha,hd]);rw[df (by omega),zQw,<- hW,je _ _ (by omega),sf];simp);rw[zJc]at aE;rw[aG hja,ha,hW];obtain⟨ap,ac,av,⟨bk,bp,bn,bm,bl,ba,⟨tk,tn,ti,th,tl⟩⟩⟩:=a;obtain⟨dk,dp,dn,dm,dl,da,⟨zOJ,zMN,zOK,zOL,zOI⟩⟩:=d;have m1:j*14 / 14=j:=(by omega);have m2:j*14 % 14=0:=(by omega);have m3:(j*14+3) / 14=j:=(by omega);have m4:(j*14+3) % 14=3:=(by omega);have m5:(n+j)*11 / 11=n+j:=(by omega);have m6:(n+j)*11 % 11=0:=(by omega);simp[U,hj,gO,cr,E1,zI7,hd,zGi,hWj,m1,m2,m3,m4,m5,m6,bq,ik,-Int.natCast_add,-List.map_set];have tP:(List.map dW er).set j [.int .i64 ap,.str ac,.sl (av.map b5) false,.int .i64 dk,.int .i64 dp,.str dn,.int .i64 dm,.sl (dl.map bP) false,.sl (da.map dW) false,.int .i64 zOJ,.str zMN,.int .i64 zOK,.int .i64 zOL,.sl (zOI.map aA) false]=(er.set j (.mk ap ac av (.mk dk dp dn dm dl da (.mk zOJ zMN zOK zOL zOI)))).map dW:=(by rw[jX];simp[ik]);rw[tP];exact aE _ _ (aw.auto (hT:=by simp[-Int.natCast_add]) (hH:=by simp[-List.map_set]))
end
def Xr(vs:Z V):Y (V×Z (Nat×J.Obj)):=match vs with
 | [ev]=>ob (bo.dec ev:Y Xp) λe=>open Classical in if E5 e then some (NU e)else none
 |_=>none
def SM(vs:Z V):Y (V×Z (Nat×J.Obj)):=match vs with
 | [ev,cv]=>ob (bo.dec ev:Y Xp) λe=>ob (bo.dec cv:Y (Z Xp)) λcs=>open Classical in if E5 e/\cs.length=e.kids.length+e.b8.length then some (P5 e cs)else none
 |_=>none
omit hρ in
def Z0(h:E5 e):Xr [enc e]=some (NU e):=by
 unfold Xr;simp only[bo.dD,eQ];exact if_pos h
omit hρ in
def zhM{cs:Z Xp}(h:E5 e)(O:cs.length=e.kids.length+e.b8.length):SM [enc e,enc cs]=some (P5 e cs):=by
 unfold SM;simp only[bo.dD,eQ];exact if_pos ⟨h,O⟩
def Me:Valid I Pg 138 (IB Xr):=Valid.new (fo Tryz.func138 Iu.2) λvs r hp h C hv=>by
 unfold Xr at h;split at h;simp only[aC]at h;let⟨e,he,h⟩:=h;obtain⟨M,rfl⟩:=bF h;rw[bo.bB _ _ he];exact ztB hρ (E:=EL []) rfl (aj aH) M hv;cases h
def zm4:Valid I Pg 149 (IB SM):=Valid.new (fo Tryz.func149 SA.2) λvs r hp h C hv=>by
 unfold SM at h;split at h;simp only[aC]at h;let⟨e,he,cs,hc,h⟩:=h;obtain⟨⟨M,O⟩,rfl⟩:=bF h;rw[bo.bB _ _ he,bo.bB _ _ hc];exact ztx hρ (E:=EL []) rfl (aj aH) M O hv;cases h
end
open Classical in
def ze6(d:Nat)(e:Xp):Y Xp:=if e.depth<=d/\Vl e then some e else none
def zw1(l:Z Am):L3 l (l.map Am.body)=l:=by
 induction l with
 |nil=>rfl
 | cons a l ih =>
   show Am.mk a.pos a.dA a.vars a.body::L3 l (l.map Am.body)=_;rw[ih,Am.eta]
section
variable {I:Nat->Value}(hρ:J.Good I)
include hρ
section
variable {E:Env}(U:E.P=Pg)(aq:bK I E)
include U aq
def zty  (hC:E.dA 138=IB Xr) (hW:E.dA 149=IB SM) (hS:E.dA 68=dC (cz (ze6 d)))  (hv:Vl e) (hd:e.depth<=d+1) (C:HS):aS I Pg 68 [enc e] C (enc e) C:=by
 refine fn hρ U aq Tryz.func68 HZ.2 rfl (by simp) ?_ C;have Pz:=hv.L5;have CP:=Z0 Pz;have n9:=zhM (cs:=BX e) Pz (by simp[BX]);have ox:∀ x∈BX e,ze6 d x=some x:=λx W=>if_pos ⟨by have:=F9 W;omega,hv.ch x W⟩;let⟨g1,g2,g3⟩:=yu Pz;unfold NU at CP;unfold P5 ZO at n9;have qe:=Pz.1;have zLT:∀ a∈e.b8,a.pos=0:=λa ha=>(Pz.2.2.2.2 a ha).1;let⟨ek,ep,en,em,ks,cq,et⟩:=e;simp only[BX,Xp.kL,Xp.lh,Xp.fH,Xp.pos_mk,Xp.j4,Xp.U2,Xp.Nu]at g1 g2 g3 CP n9 qe ox zLT;subst qe
 cases ks with
 | nil =>obtain rfl:=g3 rfl;simp only[if_true,iF,fq]at CP n9;simp[bq]at CP n9;simp[U,bq,hC,CP];refine zd hρ U aq λK=>?_;simp[U,hW,n9];refine zd hρ U aq λK=>?_;simp[U]
 | cons k ks =>
   have kA:k::ks≠[]:=(by simp);simp only[if_neg kA]at CP n9;generalize k::ks=KS at *;obtain⟨n,hn⟩:∃ n,KS.length=n:=⟨_,rfl⟩;obtain⟨m,hm⟩:∃ m,cq.length=m:=⟨_,rfl⟩;obtain⟨L,hL⟩:∃ L,KS++cq.map Am.body=L:=⟨_,rfl⟩;have Em:L.length=n+m:=(by rw[<- hL,aR,aN,hn,hm]);have zQF:L.take n=KS:=(by rw[<- hL,<- hn];simp);have zQH:L.drop n=cq.map Am.body:=(by rw[<- hL,<- hn];simp);rw[hL]at ox CP n9;rw[hn,zQF,zQH,zw1]at n9;simp[bq,Xs,Em]at CP n9;simp[U,bq,hC,CP];refine rA hρ U aq (n+m) (nn:=3) (λi (_:Unit)=>[(1,.ptr 0 0 0),(2,.ptr 1 0 0),(3,.own 2 cq.length 0 (n+m) none),(4,.int .i64 (i:Int))]) (λi _=>[(0,Xc ek 0 en em (.sl (KS.map bP) false) (.sl (cq.map dW) false) et),(1,zO),(2,.arr 11 cq.length (L.map bP) false false true)]) (λi _=>True) () (aw.auto) trivial ?_ ?_;intro _ _ K;simp[U];refine bM.mk (aw.auto (TL:=[(1,.ptr 0 0 0),(2,.ptr 1 0 0),(3,.own 2 cq.length 0 (n+m) none)]) (HL:=[(0,Xc ek 0 en em (.sl (KS.map bP) false) (.sl (cq.map dW) false) et),(1,zO),(2,.arr 11 cq.length (L.map bP) false false true)]) (n:=3)) ?_;have gE:List.take (n+m) (L.map bP)=L.map bP:=aP (by simp[Em]);have htn:List.take n (KS.map bP)=KS.map bP:=aP (by simp[hn]);by_cases wv:cq=[];subst wv;simp[hn]at n9;simp[U,hW,Em,gE,AU,n9];refine zd hρ U aq λK=>?_;simp[U,hn,bq,AU,htn];simp only[if_neg wv]at n9;simp[U,hW,Em,gE,AU,n9];rw[hm];refine rA hρ U aq m (nn:=4) (λi (_:Unit)=>[(2,.ptr 0 0 0),(5,.ptr 1 0 0),(6,.int .i64 (i:Int))]) (λi _=>[(0,zO),(1,Xc ek 0 en em (.own 2 0 0 n none) (.own 3 0 0 m none) et),(2,.arr 11 0 (KS.map bP) false false true),(3,.arr 14 0 (cq.map dW) false false true)]) (λi _=>True) () (aw.auto) trivial ?_ ?_;intro _ _ K;simp[U];refine bM.mk (aw.auto (TL:=[(2,.ptr 0 0 0),(5,.ptr 1 0 0)]) (HL:=[(0,zO),(1,Xc ek 0 en em (.own 2 0 0 n none) (.own 3 0 0 m none) et),(2,.arr 11 0 (KS.map bP) false false true),(3,.arr 14 0 (cq.map dW) false false true)]) (n:=4)) ?_;simp[U,hn,hm,bq,AU,zae,htn,(aP (by simp[hm]):List.take m (cq.map dW)=_)];intro i _ hi _ K hK;have aE:=hK () trivial;have cm:(i:Int)<m:=(by omega);have cr:=bG (i:=i);have m1:i*14 / 14=i:=(by omega);have m2:i*14 % 14=0:=(by omega);obtain⟨x,W⟩:∃ x,cq[i]=x:=⟨_,rfl⟩;have u1:=zLT x (W ▸ ax _);have tP:(cq.map dW).set i (dW x)=cq.map dW:=(by rw[<- jX,<- W,List.set_getElem_self]);let⟨ap,ac,av,ab⟩:=x;simp only[Am.pos_mk]at u1;subst u1;simp[ik,-List.map_set]at tP;simp[U,hi,cm,cr,W,hm,m1,m2,ik,tP,-Int.natCast_add,-List.map_set];exact aE _ _ (aw.auto (hT:=by simp[-Int.natCast_add]));intro i _ hi _ K hK;have aE:=hK () trivial;have cm:(i:Int)<((n+m:Nat):Int):=(by omega);have cr:=bG (i:=i);have m5:i*11 / 11=i:=(by omega);have m6:i*11 % 11=0:=(by omega);obtain⟨x,W⟩:∃ x,L[i]=x:=⟨_,rfl⟩;have hsx:=ox x (W ▸ ax _);have tP:(L.map bP).set i (bP x)=L.map bP:=(by rw[<- jX,<- W,List.set_getElem_self]);let⟨dk,dp,dn,dm,dl,da,dt⟩:=x;simp[bq,-List.map_set]at tP;simp[U,hi,cm,cr,hS,W,Em,hsx,m5,m6,bq,tP,-Int.natCast_add,-List.map_set];exact aE _ _ (aw.auto (hT:=by simp[-Int.natCast_add]))
end
def zhn:∀ d,Valid I Pg 68 (dC (cz (ze6 d)))
 | 0=>v1 (fo Tryz.func68 HZ.2) λe r h C=>by obtain⟨⟨M,_⟩,rfl⟩:=bF h;have:=Xp.iY e;omega
 | d+1=>v1 (fo Tryz.func68 HZ.2) λe r h C=>by
   obtain⟨⟨M,O⟩,rfl⟩:=bF h;exact zty hρ (E:=EL [(138,IB Xr),(149,IB SM),(68,dC (cz (ze6 d)))]) rfl (aj (ae (Me hρ) (ae (zm4 hρ) (ae (zhn d) aH)))) rfl rfl rfl O M C
end
mutual
theorem Xp.OC:∀ (e:Xp) (B o:Z (Z Nat)),o.length<=(e.K3 B o).length
 | .mk k p n m ks cq t,B,o=>by
   rw[Xp.K3];refine aO ?_ (aO (Xp.JK ks _ _) (Am.JK cq _ _));split<;>simp
theorem Xp.JK:∀ (l:Z Xp) (B o:Z (Z Nat)),o.length<=(Xp.pW B l o).length
 | [],B,o=>by rw[Xp.pW];exact af _
 |x::l,B,o=>by rw[Xp.pW];exact aO (Xp.OC x _ _) (Xp.JK l _ _)
theorem Am.JK:∀ (l:Z Am) (B o:Z (Z Nat)),o.length<=(Am.pW B l o).length
 | [],B,o=>by rw[Am.pW];exact af _
 |.mk p c v b::l,B,o=>by rw[Am.pW];exact aO (Xp.OC b _ _) (Am.JK l _ _)
end
def Qu(e:Xp)(B:Z (Z Nat)):Nat->Z Xp->Z (Z Nat)->Z (Z Nat)
 |_,[],o=>o
 |i,x::l,o=>Qu e B (i+1) l (x.K3 (B++fO e i) o)
def zdl(e:Xp)(B:Z (Z Nat)):∀ (l:Z Xp) (i:Nat) (o:Z (Z Nat)),o.length<=(Qu e B i l o).length
 | [],i,o=>af _
 |x::l,i,o=>by rw[Qu];exact aO (Xp.OC x _ _) (zdl e B l _ _)
def Yw:∀ (l:Z Am) (i:Nat) (o:Z (Z Nat)),(∀ j a,l[j]?=some a->fO e (i+j)=a.vars)->Qu e B i (l.map Am.body) o=Am.pW B l o
 | [],i,o,h=>by rw[Am.pW];rfl
 | .mk p c v b::l,i,o,h=>by
   rw[aX,Qu,Am.pW,show fO e i=v from h 0 _ rfl,Yw l (i+1) _ λj a hj=>by rw[<- h (j+1) a hj];congr 1;omega];rfl
def zpK(hv:E5 e)(hk:e.kids≠[])(B o:Z (Z Nat)):e.K3 B o=Qu e B 0 (BX e) o:=by
 let⟨ek,ep,en,em,ks,cq,et⟩:=e;let⟨_,_,_,h,_⟩:=hv;simp only[Xp.fH,Xp.kL,Xp.j4,Xp.lh,BX]at h hk ⊢;rw[Xp.K3];rcases h with⟨rfl,_,rfl,rfl⟩|⟨rfl,_,rfl,rfl⟩|⟨rfl,_,O,rfl⟩|⟨rfl,_,O,rfl⟩|⟨rfl,_,O,_,_⟩;exact absurd rfl hk;exact absurd rfl hk
 match ks,O with
 | [b],_=>simp[Xp.pW,Am.pW,Qu,fO]
 match ks,O with
 | [a,b],_=>simp[Xp.pW,Am.pW,Qu,fO]
 match ks,O with
 | [a],_ =>
   rw[mH,Qu,Yw cq 1 _ λj a hj=>by simp[fO,hj]];simp[Xp.pW,fO]
def ziW(b:Z Nat)(B:Z (Z Nat))(z:Z Nat)(pS:Z (Z Nat)):(eZ (gP (List.take (B.length+1+(pS.length+1)) (b5 b::(B.map b5++b5 z::pS.map b5)))):Y (Z (Z Nat)))=some (b::(B++z::pS)):=by
 rw[aP (by simp;omega),show b5 b::(B.map b5++b5 z::pS.map b5)=(b::(B++z::pS)).map b5 by simp];have:=kY (α:=Z Nat) (b::(B++z::pS));simp at this ⊢
open Classical in
def Jl(d:Nat)(o B:Z (Z Nat))(e:Xp):Y (Z (Z Nat)):=if Vl e/\e.depth<=d/\B.length+4*e.depth<=1000/\(e.K3 B o).length<=1000 then some (e.K3 B o)else none
section
variable {I:Nat->Value}(hρ:J.Good I)
include hρ
section
variable {E:Env}(U:E.P=Pg)(aq:bK I E)
include U aq
def zoX  (hH:E.dA 223=FO) (hC:E.dA 138=IB Xr) (hB:E.dA 144=dC (cB SR)) (hS:E.dA 150=vt 1 (MO (Jl d)) xL)   (hv:Vl e) (hd:e.depth<=d+1) (hBl:B.length+4*e.depth<=1000) (hol:(e.K3 B o).length<=1000)
   (ka:rowOf 1 C v=some (o.map b5)) (nN:C.H.get C.n=none):aS I Pg 150 [v,enc B,enc e] C (xS 1 v (o.map b5) ((e.K3 B o).map b5) C).1 (xS 1 v (o.map b5) ((e.K3 B o).map b5) C).2:=by
 have zy0:=Xp.OC e B o;refine io hρ U aq (K:=xL) (rs:=[]) (.inl rfl) Tryz.func150 CZ.2 rfl (by simp) (by simp) (by simp) rfl (by simpa using zy0) ?_ ka nN;clear ka nN;obtain⟨R,hR⟩:∃ R,e.K3 B o=R:=⟨_,rfl⟩;rw[hR]at hol zy0 ⊢;have zpF:B.length<=1000000:=by omega
 have ztW:o.length<=1000000:=by omega
 have Pz:=hv.L5;have CP:=Z0 Pz;unfold NU at CP;obtain⟨g1,g2,g3⟩:=yu Pz;by_cases mc:e.kids=[];rw [if_pos mc]at CP;have wv:=g3 mc;obtain⟨ek,ep,en,em,ks,cq,et⟩:=e;simp only[Xp.kL,Xp.lh]at mc wv;subst mc wv;rw[Xp.K3,Xp.pW,Am.pW]at hR;simp[bq]at CP;by_cases M:ek=1/\en ∉ B/\en ∉ o;obtain⟨rfl,O,h3⟩:=M;rw[if_pos ⟨rfl,O,h3⟩]at hR;subst hR;rw[aR,mI]at hol
 cases o with
 | nil =>simp[U,bq,hC,CP,hH,FO,O,zpF];refine zd hρ U aq λK=>?_;simp[U,xL];exact aJ.auto
 | cons x o =>have qs:(o.length+1+1)*16<=1048576:=(by simp only[aL]at hol;omega);simp only[aL]at ztW;rw[ay,not_or]at h3;simp[U,bq,hC,CP,hH,FO,O,zpF,ztW,h3.1,h3.2,qs,bf];refine zd hρ U aq λK=>?_;simp[U,xL];exact aJ.auto
 rw [if_neg M]at hR;subst hR;have W:ek=1->en ∉ B->en∈o:=λa b=>aY λq=>M ⟨a,b,q⟩;by_cases h4:ek=1;subst h4;by_cases h5:en∈B
 cases o with
 | nil =>simp[U,bq,hC,CP,hH,FO,h5,zpF];refine zd hρ U aq λK=>?_;simp[U,xL];exact aJ.auto
 | cons x o =>simp[U,bq,hC,CP,hH,FO,h5,zpF];refine zd hρ U aq λK=>?_;simp[U,xL];exact aJ.auto
 have h6:=W rfl h5
 cases o with
 |nil=>cases h6
 | cons x o =>simp only[aL]at ztW;rw[ay]at h6;simp[U,bq,hC,CP,hH,FO,h5,zpF,ztW,h6];refine zd hρ U aq λK=>?_;simp[U,xL];exact aJ.auto
 cases o with
 | nil =>simp[U,bq,hC,CP,h4];refine zd hρ U aq λK=>?_;simp[U,xL];exact aJ.auto
 | cons x o =>simp[U,bq,hC,CP,h4];refine zd hρ U aq λK=>?_;simp[U,xL];exact aJ.auto
 rw [if_neg mc]at CP;rw[zpK Pz mc]at hR;obtain⟨L,hL⟩:∃ L,BX e=L:=⟨_,rfl⟩;obtain⟨N,hN⟩:∃ N,L.length=N:=⟨_,rfl⟩;have zQE:N=e.kids.length+e.b8.length:=by rw[<- hN,<- hL];simp[BX]
 have k1:e.kind≠1:=λh=>by rcases Pz.2.2.2.1 with⟨_,_,q,_⟩|q|q|q|q<;>first|exact mc q|omega
 have nh:∀ i (hi:i<N) (q:Z (Z Nat)),Qu e B i (L.drop i) q=R->SR e (i:Int)=some (fO e i)/\Jl d q (B++fO e i) (L[i]'(by omega))=some ((L[i]'(by omega)).K3 (B++fO e i) q)/\Qu e B (i+1) (L.drop (i+1)) ((L[i]'(by omega)).K3 (B++fO e i) q)=R:=λi hi q h=>by
  rw[aG (by omega),Qu]at h;have hm:L[i]'(by omega)∈BX e:=by rw[hL];exact ax _
  have M:=F9 hm;have O:=Ht Pz i;have h3:=zdl e B (L.drop (i+1)) (i+1) ((L[i]'(by omega)).K3 (B++fO e i) q);rw[h]at h3;exact⟨if_pos ⟨Pz,by omega,by omega⟩,if_pos ⟨hv.ch _ hm,by omega,by rw[aR];omega,by omega⟩,h⟩
 rw[hL]at CP hR;obtain⟨ek,ep,en,em,ks,cq,et⟩:=e;simp only[Xp.kL,Xp.lh,Xp.fH]at mc zQE k1 CP g1 g2;simp[bq,Xs,hN]at CP;have zOx:=Ht Pz;generalize fO (Xp.mk ek ep en em ks cq et)=cI at nh zOx
 have go:∀ (k:Nat) T a9 Q,aw k T a9 (dP [(0,oV 0 (o.map b5)),(1,.sl (B.map b5) false),(5,.ptr 1 0 0),(7,.own 2 cq.length 0 N none),(8,.int .i64 0)]) { H:=dP ((1,Xc ek ep en em (.sl (ks.map bP) false) (.sl (cq.map dW) false) et)::(2,.arr 11 cq.length (L.map bP) false false true)::oH 0 1 (o.map b5)),n:=3,log:=[] }->Q (.exit 0) (dP [(0,oV 0 (R.map b5))]) { H:=dP (oH 0 1 (R.map b5)),n:=1,log:=[] }->k=0/\o=[]\/k=1/\o≠[]->Ls I E k 52 (.loop xB) T a9 Q:=λk T a9 Q h0 hQ hk=>by
  refine rA hρ U aq N (nn:=3) (λi q=>[(0,oV 0 (q.map b5)),(1,.sl (B.map b5) false),(5,.ptr 1 0 0),(7,.own 2 cq.length 0 N none),(8,.int .i64 (i:Int))]) (λi q=>(1,Xc ek ep en em (.sl (ks.map bP) false) (.sl (cq.map dW) false) et)::(2,.arr 11 cq.length (L.map bP) false false true)::oH 0 1 (q.map b5)) (λi q=>Qu (.mk ek ep en em ks cq et) B i (L.drop i) q=R/\(k=1->q≠[])) o h0 ⟨hR,λh=>by rcases hk with hk|hk<;>first|omega|exact hk.2⟩ ?_ ?_;rintro q ⟨h,mw⟩ K;rw[<- hN,bz]at h;replace h:q=R:=h;rw[h]at mw ⊢;clear h hR nh
  cases R with
  | nil =>
    obtain rfl:k=0:=by rcases hk with hk|hk<;>first|exact hk.1|exact absurd rfl (mw hk.1)
    simp[xB,U];exact bM.mk (aw.auto) hQ
  | cons x R =>simp[xB,U];rcases hk with⟨rfl,_⟩|⟨rfl,_⟩<;>exact bM.mk (aw.auto) hQ
  . rintro i q hi ⟨h,mw⟩ K hK;obtain⟨s1,s2,s3⟩:=nh i hi q h;obtain⟨x,W⟩:∃ x,L[i]'(by omega)=x:=⟨_,rfl⟩;rw[W]at s2 s3;have zc:=Xp.OC x (B++cI i) q;generalize x.K3 (B++cI i) q=q' at s2 s3 zc
    have aE:=hK q' ⟨s3,λh=>by
     have:=mw h;intro e;rw[e]at zc
     exact this (bV (by simpa using zc))⟩
    clear hK;have cm:(i:Int)<N:=(by omega);have cr:=bG (i:=i);have m5:i*11 / 11=i:=(by omega);have m6:i*11 % 11=0:=(by omega);have zMk:=zOx i;generalize cI i=pS at s1 s2 zMk;obtain⟨dk,dp,dn,dm,dl,da,dt⟩:=x;have hB2:B.length<=1000:=(by omega);have c1:B.length*16<=1048576:=(by omega);have c2:pS.length*16<=1048576:=(by omega);have c3:(B.length+pS.length)*16<=1048576:=(by omega);have hle:∀ a c:Nat,a+1+(c+1)<=a+(c+1)+1:=λa c=>(by omega);have js:∀ a c:Nat,¬ a+1+(c+1)<=a+1:=λa c=>(by omega);rcases hk with⟨rfl,_⟩|⟨rfl,_⟩<;>rcases q with _|⟨y,q⟩<;>rcases q' with _|⟨y',q'⟩<;>try first|(simp at zc;done)|exact absurd rfl (mw rfl)
    all_goals rcases B with _|⟨b,B⟩<;>rcases pS with _|⟨z,pS⟩<;>simp only[gL,fq,dx,aL,Nat.add_le_add_iff_right]at s2 c1 c2 c3 zc
    all_goals simp[xB,U,hi,cm,cr,hB,hS,W,hN,m5,m6,bq,s1,s2,c1,c2,c3,js,hle,ziW,zc,xL,-Int.natCast_add]
    all_goals try exact aE _ _ (aw.auto (hT:=by simp[-Int.natCast_add]))
 cases o with
 | nil =>simp[U,bq,hC,CP,k1];refine go 0 _ _ _ (aw.auto) ?_ (.inl ⟨rfl,rfl⟩);rcases R with _|⟨r,R⟩<;>simp[U,xL]<;>exact aJ.auto
 | cons x o =>
   simp[U,bq,hC,CP,k1];refine go 1 _ _ _ (aw.auto) ?_ (.inr ⟨rfl,by simp⟩);rcases R with _|⟨r,R⟩;simp at zy0;simp[U,xL];exact aJ.auto
def zkR(hS:E.dA 150=vt 1 (MO (Jl d)) xL){r:Z (Z Nat)}(h:Jl d [] [] e=some r)(C:HS):aS I Pg 69 [enc e] C (enc r) C:=by
 refine fn hρ U aq Tryz.func69 Pp.2 rfl (by simp) ?_ C;let⟨ek,ep,en,em,ks,cq,et⟩:=e;rcases r with _|⟨x,r⟩<;>simp[U,hS,bq,h,xL]
end
def zxg(d:Nat):Valid I Pg 150 (vt 1 (MO (Jl d)) xL):=by
 induction d with
 | zero =>refine Valid.io (fo Tryz.func150 CZ.2) λes vs r _ _ h0 _ _ _ C v hv nN=>?_;obtain⟨l,a,b,q,rfl,rfl,h,rfl⟩:=Ot h0;obtain⟨⟨_,M,_⟩,rfl⟩:=bF h;have:=Xp.iY b;omega
 | succ d ih =>
   refine Valid.io (fo Tryz.func150 CZ.2) λes vs r _ _ h0 _ _ _ C v hv nN=>?_;obtain⟨l,a,b,q,rfl,rfl,h,rfl⟩:=Ot h0;obtain⟨⟨M,O,h3,h4⟩,rfl⟩:=bF h;exact zoX hρ (E:=EL [(223,FO),(138,IB Xr),(144,dC (cB SR)),(150,vt 1 (MO (Jl d)) xL)]) rfl (aj (ae (zvG hρ) (ae (Me hρ) (ae (zho hρ) (ae ih aH))))) rfl rfl rfl rfl M O h3 h4 hv nN
def zxh(d:Nat):Valid I Pg 69 (dC (cz (Jl d [] []))):=v1 (fo Tryz.func69 Pp.2) λe r h C =>
 zkR hρ (E:=EL [(150,vt 1 (MO (Jl d)) xL)]) rfl (aj (ae (zxg hρ d) aH)) rfl h C
end
def gV(r c:Nat)(l:Z (Z V)):V:=match l with
 | []=>.a8
 |_::t=>.own r (t.length+1-c) 0 (t.length+1) none
def gH(r c:Nat)(l:Z (Z V)):Z (Nat×J.Obj):=match l with
 | []=>[]
 |e::t=>[(r,.arr 1 (t.length+1-c) (e::t) false false true)]
@[simp] def zMz :gV r c []=.a8:=(rfl)
@[simp] def zJt  {e:Z V} :gV r c (e::t)=.own r (t.length+1-c) 0 (t.length+1) none:=(rfl)
@[simp] def zMA :gH r c []=[]:=(rfl)
@[simp] def zJu  {e:Z V} :gH r c (e::t)=[(r,.arr 1 (t.length+1-c) (e::t) false false true)]:=(rfl)
def HX(F:Nat->Z Nat)(n:Nat)(a:Am):Am:=.mk a.pos a.dA (nT F n a.vars.length) a.body
@[simp] def zBC (F:Nat->Z Nat) (i:Nat):nT F i 0=[]:=(rfl)
def Yf(F:Nat->Z Nat)(i k:Nat):nT F i (k+1)=nT F i k++[F (i+k)]:=by simp[nT,List.range_succ]
def ZQ(h:WM T)(hl:T.length<=1000)(hn:n<=60):UD (n:Int) T=some (yj T n):=by
 unfold UD;rw[if_pos (by omega),bO,zyp h hn]
section
variable {I:Nat->Value}(hρ:J.Good I)
include hρ
section
variable {E:Env}(U:E.P=Pg)(aq:bK I E)
include U aq
def zyE (hF:E.dA 148=dC (cB UD)) {nms b P0 Q0:Z (Z Nat)} {em:Int}    {et:G} {out:Z Xp} {N:Nat} (hT:WM T) (Dg:T.length<=1000) (hb:P0.length+b.length<=60) (hc:c=if P0=[]then 1 else P0.length) (zQC:Q0=nT (yj T) 0 P0.length)
 
 (h0:aw 0 T0 C (dP [(1,.sl (T.map b5) false),(2,.sl (cb.map b5) false),(3,.sl (nms.map b5) false),(4,.ptr 0 0 0),(8,.ptr 1 0 0),(10,.own 2 g 0 N none),(11,oV 3 (out.map bP)),(12,.int .i64 (i:Int)),(13,gV 4 c (P0.map b5)),(14,gV 5 c (Q0.map b5)),(15,.sl (b.map b5) false),(16,.int .i64 ((0:Nat):Int))])
   { H:=dP ((0,Xc ek ep en em (.sl (ks.map bP) false) (.sl (cq.map dW) false) et)::(1,zO)::(2,.arr 11 g (L.map bP) false false true)::(oH 3 11 (out.map bP)++(gH 4 c (P0.map b5)++gH 5 c (Q0.map b5)))),n:=6,log:=[] })
 (hQ:Q (.exit 2) (dP [(1,.sl (T.map b5) false),(2,.sl (cb.map b5) false),(3,.sl (nms.map b5) false),(4,.ptr 0 0 0),(8,.ptr 1 0 0),(10,.own 2 g 0 N none),(11,oV 3 (out.map bP)),(12,.int .i64 (i:Int)),(13,gV 4 c ((P0++b).map b5)),(14,gV 5 c ((nT (yj T) 0 (P0++b).length).map b5))])
   { H:=dP ((0,Xc ek ep en em (.sl (ks.map bP) false) (.sl (cq.map dW) false) et)::(1,zO)::(2,.arr 11 g (L.map bP) false false true)::(oH 3 11 (out.map bP)++(gH 4 c ((P0++b).map b5)++gH 5 c ((nT (yj T) 0 (P0++b).length).map b5)))),n:=6,log:=[] }) :
 Ls I E 0 140 (.loop pM) T0 C Q:=by
 subst zQC
 refine rA hρ U aq b.length (nn:=6) (λk (P:Z (Z Nat))=>[(1,.sl (T.map b5) false),(2,.sl (cb.map b5) false),(3,.sl (nms.map b5) false),(4,.ptr 0 0 0),(8,.ptr 1 0 0),(10,.own 2 g 0 N none),(11,oV 3 (out.map bP)),(12,.int .i64 (i:Int)),(13,gV 4 c (P.map b5)),(14,gV 5 c ((nT (yj T) 0 P.length).map b5)),(15,.sl (b.map b5) false),(16,.int .i64 (k:Int))])
  (λk P=>(0,Xc ek ep en em (.sl (ks.map bP) false) (.sl (cq.map dW) false) et)::(1,zO)::(2,.arr 11 g (L.map bP) false false true)::(oH 3 11 (out.map bP)++(gH 4 c (P.map b5)++gH 5 c ((nT (yj T) 0 P.length).map b5)))) (λk P=>P=P0++b.take k) P0 h0 (by simp) ?_ ?_
 . rintro P rfl K;rw[gm];generalize P0++b=P at hQ;have ID:(nT (yj T) 0 P.length).length=P.length:=oC;generalize nT (yj T) 0 P.length=R at hQ ID;rcases P with _|⟨p,P⟩<;>rcases R with _|⟨r,R⟩<;>first|(simp at ID;done)|skip
   all_goals rcases out with _|⟨x,out⟩
   all_goals simp[pM,U]
   all_goals try exact bM.mk (aw.auto) hQ
 . rintro k P hk h K hK;have zGk:P.length=P0.length+k:=(by rw[h,aR,dR];omega);obtain⟨x,W⟩:∃ x,b[k]=x:=⟨_,rfl⟩;have aE:=hK (P++[x]) (by rw[h,fA,<- W,df hk]);rw[aR,mI,Yf,fV]at aE;have pB:=ZQ hT Dg (n:=P.length) (by omega);have ew:(P=[]->c=1)/\(P≠[]->c<=P.length):=by refine⟨λe=>?_,λe=>?_⟩;rw[e]at zGk;have:P0=[]:=bV (by simp at zGk;omega);rw[hc,if_pos this];have:=bR.2 e;rw[hc];split<;>omega
   have ID:(nT (yj T) 0 P.length).length=P.length:=oC;generalize nT (yj T) 0 P.length=R at aE ID;generalize yj T P.length=y at aE pB;clear h hc hK;have np:(k:Int)<b.length:=(by omega);have cr:=bG (i:=k);have zMo:P.length<=60:=(by omega);rcases P with _|⟨p,P⟩<;>rcases R with _|⟨r,R⟩<;>first|(simp at ID;done)|skip
   . obtain rfl:=ew.1 rfl;replace pB:UD 0 T=some y:=pB;rcases out with _|⟨o,out⟩
     all_goals simp[pM,U,hF,pB,hk,np,W,cr,-Int.natCast_add]
     all_goals try exact aE _ _ (aw.auto (hT:=by simp[-Int.natCast_add]))
   . have zy8:=ew.2 (by simp);simp only[aL,Nat.add_right_cancel_iff]at zy8 ID zMo pB;have r1:(P.length+1+1)*16<=1048576:=(by omega);have gE:List.take P.length (R.map b5)=R.map b5:=aP (by simp[ID]);have r2:P.length+1+1-c=P.length+1-c+1:=(by omega);rcases out with _|⟨o,out⟩
     all_goals simp[pM,U,hF,pB,hk,np,W,cr,ID,gE,r1,bf,-Int.natCast_add]
     all_goals exact aE _ _ (aw.auto (hT:=by simp[ID,r2,-Int.natCast_add]) (hH:=by simp[ID,r2]))
def zyC(hF:E.dA 148=dC (cB UD)){em:Int}{et:G}{p:Nat}(hT:WM T)(Dg:T.length<=1000)(hp:cb.length+p<=60)
 
 (h0:aw 0 T0 C (dP [(1,.sl (T.map b5) false),(2,.sl (cb.map b5) false),(8,.ptr 0 0 0),(17,.ptr 1 0 0),(18,.int .i64 (i:Int)),(19,.own 4 0 0 p (some p)),(20,.int .i64 ((0:Nat):Int))])
   { H:=dP [(0,zO),(1,Xc ek ep en em (.own 2 0 0 n none) (.own 3 0 0 m none) et),(2,.arr 11 0 (KS.map bP) false false true),(3,.arr 14 0 (er.map dW) false false true),(4,.arr 1 0 ((List.replicate p ([]:Z Nat)).map b5) true false true)],n:=5,log:=[] })
 (hQ:Q (.exit 6) (dP [(1,.sl (T.map b5) false),(2,.sl (cb.map b5) false),(8,.ptr 0 0 0),(17,.ptr 1 0 0),(18,.int .i64 (i:Int)),(19,.own 4 0 0 p (some p))])
   { H:=dP [(0,zO),(1,Xc ek ep en em (.own 2 0 0 n none) (.own 3 0 0 m none) et),(2,.arr 11 0 (KS.map bP) false false true),(3,.arr 14 0 (er.map dW) false false true),(4,.arr 1 0 ((nT (yj T) cb.length p).map b5) true false true)],n:=5,log:=[] }) :
 Ls I E 0 140 (.loop uR) T0 C Q:=by
 refine rA hρ U aq p (nn:=5) (λk (R:Z (Z Nat))=>[(1,.sl (T.map b5) false),(2,.sl (cb.map b5) false),(8,.ptr 0 0 0),(17,.ptr 1 0 0),(18,.int .i64 (i:Int)),(19,.own 4 0 0 p (some p)),(20,.int .i64 (k:Int))])
  (λk R=>[(0,zO),(1,Xc ek ep en em (.own 2 0 0 n none) (.own 3 0 0 m none) et),(2,.arr 11 0 (KS.map bP) false false true),(3,.arr 14 0 (er.map dW) false false true),(4,.arr 1 0 (R.map b5) true false true)]) (λk R=>R=nT (yj T) cb.length k++List.replicate (p-k) []) (List.replicate p []) h0 (by simp[nT]) ?_ ?_
 rintro R rfl K;rw[iW,List.replicate_zero,fq];generalize nT (yj T) cb.length p=R at hQ;simp[uR,U];exact bM.mk (aw.auto) hQ;rintro k R hk h K hK;have G4:R.length=p:=by rw[h,aR,oC,List.length_replicate,Nat.add_sub_cancel' (dG hk)]
 have aE:=hK (R.set k (yj T (cb.length+k))) (by
  rw[h,je _ _ (by rw[oC];exact af _),oC,iW,show p-k=p-(k+1)+1 by omega,List.replicate_succ,List.set_cons_zero,Yf]
  try simp)
 have pB:=ZQ hT Dg (n:=cb.length+k) (by omega);generalize yj T (cb.length+k)=y at aE pB;clear h hK;have np:(k:Int)<p:=by omega
 have cr:=bG (i:=k);have E1:IntKind.i64.wrap ((cb.length:Int)+(k:Int))=((cb.length+k:Nat):Int):=by rw[wrap_i64 (by omega) (by omega)];omega
 have tP:(R.map b5).set k [.str y]=(R.set k y).map b5:=by rw[jX]
 have lO:∀ s:Z Nat,kF (b5 s) 0 [V.str y]=[.str y]:=λs=>rfl;simp[uR,U,hF,pB,hk,np,cr,E1,G4,Nat.mod_one,lO,tP,-Int.natCast_add,-List.map_set];exact aE _ _ (aw.auto (hT:=by simp[-Int.natCast_add]) (hH:=by simp[-List.map_set]))
def zyB(hF:E.dA 148=dC (cB UD)){em:Int}{et:G}(hT:WM T)(Dg:T.length<=1000)(hm:er.length=m)(ez:m<=100)(hp:∀ a∈er,cb.length+a.vars.length<=60)
 
 (h0:aw 0 T0 C (dP [(1,.sl (T.map b5) false),(2,.sl (cb.map b5) false),(8,.ptr 0 0 0),(17,.ptr 1 0 0),(18,.int .i64 ((0:Nat):Int))])
   { H:=dP [(0,zO),(1,Xc ek ep en em (.own 2 0 0 n none) (.own 3 0 0 m none) et),(2,.arr 11 0 (KS.map bP) false false true),(3,.arr 14 0 (er.map dW) false false true)],n:=4,log:=[] })
 (hQ:Q (.exit 4) (dP [(8,.ptr 0 0 0),(17,.ptr 1 0 0)])
   { H:=dP [(0,zO),(1,Xc ek ep en em (.own 2 0 0 n none) (.own 3 0 0 m none) et),(2,.arr 11 0 (KS.map bP) false false true),(3,.arr 14 0 ((er.map (HX (yj T) cb.length)).map dW) false false true)],n:=4,log:=[] }) :
 Ls I E 0 140 (.loop uQ) T0 C Q:=by
 refine rA hρ U aq m (nn:=4) (λi (R:Z Am)=>[(1,.sl (T.map b5) false),(2,.sl (cb.map b5) false),(8,.ptr 0 0 0),(17,.ptr 1 0 0),(18,.int .i64 (i:Int))])
  (λi R=>[(0,zO),(1,Xc ek ep en em (.own 2 0 0 n none) (.own 3 0 0 m none) et),(2,.arr 11 0 (KS.map bP) false false true),(3,.arr 14 0 (R.map dW) false false true)]) (λi R=>R=(er.map (HX (yj T) cb.length)).take i++er.drop i) er h0 (by simp) ?_ ?_
 rintro R rfl K;rw[<- hm,bz,fq,aP (by simp)];generalize er.map (HX (yj T) cb.length)=R at hQ;rw[hm];simp[uQ,U];exact bM.mk (aw.auto) hQ;rintro i R hi h K hK;obtain⟨a,ha⟩:∃ a,er[i]'(by omega)=a:=⟨_,rfl⟩;have zLT:=hp a (ha ▸ ax _);have sf:((er.map (HX (yj T) cb.length)).take i).length=i:=by simp;omega
 rw[aG (by omega),ha]at h;have G4:R.length=m:=by rw[h,aR,sf,aL,wm];omega
 have zOt:R[i]'(by omega)=a:=by subst h;rw[jZ (by omega)];simp[sf]
 have hRs:R.set i (HX (yj T) cb.length a)=(er.map (HX (yj T) cb.length)).take i++HX (yj T) cb.length a::er.drop (i+1):=by rw[h,je _ _ (by omega),sf];simp
 have aE:=hK (R.set i (HX (yj T) cb.length a)) (by
  rw[hRs,df (by simp;omega)]
  simp[ha])
 clear h hK hRs;have cm:(i:Int)<m:=by omega
 have cr:=bG (i:=i);obtain⟨p,sR⟩:∃ p,a.vars.length=p:=⟨_,rfl⟩;have zQd:p<=60:=by omega
 have vc:=λT1 cp Q1=>zyC hρ U aq hF (cb:=cb) (ek:=ek) (ep:=ep) (em:=em) (en:=en) (et:=et) (KS:=KS) (er:=R) (n:=n) (m:=m) (i:=i) (p:=p) hT Dg (by omega) (T0:=T1) (C:=cp) (Q:=Q1);unfold HX at aE;rw[sR]at aE;have zMl:(nT (yj T) cb.length p).length=p:=oC;generalize nT (yj T) cb.length p=V0 at aE vc zMl;obtain⟨ap,ac,av,⟨bk,bp,bn,bm,bl,ba,bt⟩⟩:=a;simp only[Am.pos_mk,Am.JW,Am.AQ,Am.EO]at sR aE;have m1:i*14 / 14=i:=by omega
 have m2:i*14 % 14=0:=by omega
 have m3:(i*14+2) / 14=i:=by omega
 have m4:(i*14+2) % 14=2:=by omega
 have r1:p*16<=1048576:=by omega
 have tP:(R.map dW).set i [.int .i64 ap,.str ac,.sl (V0.map b5) false,.int .i64 bk,.int .i64 bp,.str bn,.int .i64 bm,.sl (bl.map bP) false,.sl (ba.map dW) false,.int .i64 bt.kind,.str bt.name,.int .i64 bt.id,.int .i64 bt.home,.sl (bt.args.map aA) false]=(R.set i (.mk ap ac V0 (.mk bk bp bn bm bl ba bt))).map dW:=by rw[jX];simp[ik]
 simp[uQ,U,hi,cm,G4,zOt,m1,m2,m3,m4,ik,sR,r1,(show p<=1048576 by omega)];refine vc _ _ _ (aw.auto) ?_;have gE:List.take p (V0.map b5)=V0.map b5:=aP (by simp[zMl]);simp[U,hi,cm,G4,zOt,m1,m2,m3,m4,ik,zMl,gE,cr,tP,-Int.natCast_add,-List.map_set];exact aE _ _ (aw.auto (hT:=by simp[-Int.natCast_add]) (hH:=by simp[-List.map_set]))
end
end
open Classical in
def SJ(d:Nat)(e:Xp)(T cb nms:Z (Z Nat)):Y Xp:=if Vl e/\e.depth<=d/\WM T/\T.length<=1000/\Rm cb e/\nms=nT (yj T) 0 cb.length then some (e.can (yj T) cb)else none
def zz4    (hv:E5 e)   (W:(BX e)[i]?=some x):(BX (e.can F cb))[i]?=some (x.can F (cb++fO e i)):=by
 unfold BX at W ⊢;rw[Xp.qM,Xp.wU];let⟨ek,ep,en,em,ks,cq,et⟩:=e;let⟨_,_,_,h,_⟩:=hv;simp only[Xp.fH,Xp.kL,Xp.j4,Xp.lh]at h W ⊢;rcases h with⟨rfl,_,rfl,rfl⟩|⟨rfl,_,rfl,rfl⟩|⟨rfl,_,O,rfl⟩|⟨rfl,_,O,rfl⟩|⟨rfl,_,O,_,_⟩;cases W;cases W
 match ks,O,i,W with
 | [b],_,0,W=>cases W;simp[TQ,fO]
 match ks,O,i,W with
 | [a,b],_,0,W=>cases W;simp[TQ,fO]
 | [a,b],_,1,W=>cases W;simp[TQ,fO]
 match ks,O with
 | [a],_ =>
   cases i with
   |zero=>cases W;simp[TQ,fO]
   | succ j =>
     simp only[mH,og,aX,iF,bC,bH]at W ⊢;obtain⟨a,ha,rfl⟩:=W;exact⟨Am.can F cb a,⟨a,ha,rfl⟩,by simp[fO,ha,Am.can]⟩
section
variable {I:Nat->Value}(hρ:J.Good I)
include hρ
section
variable {E:Env}(U:E.P=Pg)(aq:bK I E)
include U aq
def zyD(hF:E.dA 148=dC (cB UD))(hB:E.dA 144=dC (cB SR))(hS:E.dA 67=dC (Jg (SJ d))){em:Int}{et:G}{CS:Z Xp}{N:Nat}(hT:WM T)(Dg:T.length<=1000)(hL:BX (.mk ek ep en em ks cq et)=L)(hN:L.length=N)(hN1:N<=102)(hv:Vl (.mk ek ep en em ks cq et))(hd:(Xp.mk ek ep en em ks cq et).depth<=d+1)(hR:Rm cb (.mk ek ep en em ks cq et))
 (E6:BX ((Xp.mk ek ep en em ks cq et).can (yj T) cb)=CS) (W9:CS.length=N)
 
 (h0:aw 0 T0 C (dP [(1,.sl (T.map b5) false),(2,.sl (cb.map b5) false),(3,.sl ((nT (yj T) 0 cb.length).map b5) false),(4,.ptr 0 0 0),(8,.ptr 1 0 0),(10,.own 2 g 0 N none),(11,.a8),(12,.int .i64 ((0:Nat):Int))])
   { H:=dP [(0,Xc ek ep en em (.sl (ks.map bP) false) (.sl (cq.map dW) false) et),(1,zO),(2,.arr 11 g (L.map bP) false false true)],n:=6,log:=[] })
 (hQ:Q (.exit 0) (dP [(1,.sl (T.map b5) false),(2,.sl (cb.map b5) false),(4,.ptr 0 0 0),(8,.ptr 1 0 0),(11,oV 3 (CS.map bP))])
   { H:=dP ((0,Xc ek ep en em (.sl (ks.map bP) false) (.sl (cq.map dW) false) et)::(1,zO)::oH 3 11 (CS.map bP)),n:=6,log:=[] }) :
 Ls I E 0 140 (.loop pK) T0 C Q:=by
 refine rA hρ U aq N (nn:=6) (λi (db:Z Xp)=>[(1,.sl (T.map b5) false),(2,.sl (cb.map b5) false),(3,.sl ((nT (yj T) 0 cb.length).map b5) false),(4,.ptr 0 0 0),(8,.ptr 1 0 0),(10,.own 2 g 0 N none),(11,oV 3 (db.map bP)),(12,.int .i64 (i:Int))])
  (λi db=>(0,Xc ek ep en em (.sl (ks.map bP) false) (.sl (cq.map dW) false) et)::(1,zO)::(2,.arr 11 g (L.map bP) false false true)::oH 3 11 (db.map bP)) (λi db=>db=CS.take i) [] h0 (by simp) ?_ ?_
 rintro db rfl K;rw[<- W9,gm];rw[W9];rcases CS with _|⟨x,CS⟩<;>simp[pK,U]<;>exact bM.mk (aw.auto) hQ
 rintro i db hi hO K hK;have Pz:=hv.L5;obtain⟨x,W⟩:∃ x,L[i]'(by omega)=x:=⟨_,rfl⟩;have hmx:x∈BX (.mk ek ep en em ks cq et):=by rw[hL,<- W];exact ax _
 have qq:=zz4 (F:=yj T) (cb:=cb) Pz (i:=i) (x:=x) (by rw[hL,az (by omega),W]);rw[E6]at qq;obtain⟨y,hy⟩:∃ y,x.can (yj T) (cb++fO (.mk ek ep en em ks cq et) i)=y:=⟨_,rfl⟩;rw[hy]at qq;have pH:=Ht Pz i;have zMe:=F9 hmx;have zOs:cb.length+4*(Xp.mk ek ep en em ks cq et).depth<=60:=hR;have OS:SJ d x T (cb++fO (.mk ek ep en em ks cq et) i) (nT (yj T) 0 (cb++fO (.mk ek ep en em ks cq et) i).length)=some y:=by rw[<- hy];exact if_pos ⟨hv.ch _ hmx,by omega,hT,Dg,by unfold Rm;rw[aR];omega,rfl⟩
 have tj:SR (.mk ek ep en em ks cq et) (i:Int)=some (fO (.mk ek ep en em ks cq et) i):=if_pos ⟨Pz,by omega,by have:=congrArg List.length hL;simp[BX]at this;simp;omega⟩;have aE:=hK (db++[y]) (by rw[hO,dS,qq];rfl);have zJk:db.length<=102:=by rw[hO,dR];omega
 clear qq hK hO hy;have hold:cb.length<=60:=by omega
 have oB:=λ(c:Nat) hc T1 cp Q1=>zyE hρ U aq hF (T:=T) (cb:=cb) (nms:=nT (yj T) 0 cb.length) (b:=fO (.mk ek ep en em ks cq et) i) (P0:=cb) (Q0:=nT (yj T) 0 cb.length) (ek:=ek) (ep:=ep) (em:=em) (en:=en) (ks:=ks) (cq:=cq) (et:=et) (L:=L) (out:=db) (g:=g) (N:=N) (i:=i) (c:=c) hT Dg (by omega) hc rfl (T0:=T1) (C:=cp) (Q:=Q1);generalize fO (.mk ek ep en em ks cq et) i=cI at OS tj pH oB;have cm:(i:Int)<N:=by omega
 have cr:=bG (i:=i);have m5:i*11 / 11=i:=by omega
 have m6:i*11 % 11=0:=by omega
 have fL:(nT (yj T) 0 cb.length).length=cb.length:=oC;have hOr:(db.length+1)*152<=1048576:=by omega
 have zQD:∃ P R,cb++cI=P/\nT (yj T) 0 (cb++cI).length=R/\R.length=P.length:=⟨_,_,rfl,rfl,oC⟩;let⟨P,R,hP,hRr,G4⟩:=zQD;have hcP:∀ c,(c=if cb=[]then 1 else cb.length)->P≠[]->c<=P.length:=λc hc hp=>by have:=bR.2 hp;rw[hc,<- hP];split;rw[hP];omega;rw[aR];omega
 rw[hP]at hRr;rw[hP,hRr]at OS;rw[hP,hRr]at oB;clear hP hRr zOs hR;rcases cb with _|⟨o,cb⟩
 . rcases db with _|⟨o1,db⟩
   all_goals try simp only[aL]at hOr
   all_goals simp[pK,U,hi,cm,hB,tj,bq,-Int.natCast_add]
   all_goals refine oB 1 (by simp) _ _ _ (aw.auto) ?_
   all_goals rcases P with _|⟨p,P⟩<;>rcases R with _|⟨r,R⟩<;>first|(simp at G4;done)|skip
   all_goals simp[U,hS,OS,W,hi,cm,hN,m5,m6,bq,cr,hOr,bf,-Int.natCast_add]
   all_goals exact aE _ _ (aw.auto (hT:=by simp[-Int.natCast_add]) (hH:=by simp[bq]))
 . have hcP:=hcP (cb.length+1) (by simp);simp only[aL]at hold;have c1:(cb.length+1)*16<=1048576:=(by omega);generalize nT (yj T) 0 (o::cb).length=R0 at fL oB aE ⊢;simp only[aL]at fL;rcases R0 with _|⟨r0,R0⟩;simp at fL;simp only[aL,Nat.add_right_cancel_iff]at fL;rcases db with _|⟨o1,db⟩
   all_goals try simp only[aL]at hOr
   all_goals simp[pK,U,hi,cm,hB,tj,bq,c1,fL,-Int.natCast_add]
   all_goals refine oB (cb.length+1) (by simp) _ _ _ (aw.auto (hT:=by simp[fL]) (hH:=by simp[fL,bq])) ?_
   all_goals rcases P with _|⟨p,P⟩<;>rcases R with _|⟨r,R⟩<;>first|(simp at G4;done)|skip
   all_goals simp[U,hS,OS,W,hi,cm,hN,m5,m6,bq,cr,hOr,bf,-Int.natCast_add]
   all_goals exact aE _ _ (aw.auto (hT:=by simp[-Int.natCast_add]) (hH:=by simp[bq]))
end
end
def zhg(g:Am->Xp):∀ l:Z Am,L3 l (l.map g)=l.map λa=>.mk a.pos a.dA a.vars (g a)
 | []=>rfl
 | a::l=>by
   show _::L3 l (l.map g)=_;rw[zhg g l];rfl
section
variable {I:Nat->Value}(hρ:J.Good I)
include hρ
section
variable {E:Env}(U:E.P=Pg)(aq:bK I E)
include U aq
def ztC(zGk:E.dA 147=dC (cB zsM))(hC:E.dA 138=IB Xr)(hW:E.dA 149=IB SM)(hF:E.dA 148=dC (cB UD))(hB:E.dA 144=dC (cB SR))(hS:E.dA 67=dC (Jg (SJ d)))(hv:Vl e)(hd:e.depth<=d+1)(hT:WM T)(Dg:T.length<=1000)(hR:Rm cb e)(C:HS) :
 aS I Pg 67 [enc e,enc T,enc cb,enc (nT (yj T) 0 cb.length)] C (enc (e.can (yj T) cb)) C:=by
 refine fn hρ U aq Tryz.func67 lD.2 rfl (by simp) ?_ C;have Pz:=hv.L5;have CP:=Z0 Pz;have zOs:cb.length+4*e.depth<=60:=hR;have hdp:=Xp.iY e;have hold:cb.length<=60:=by omega
 obtain⟨CS,E6⟩:∃ CS,BX (e.can (yj T) cb)=CS:=⟨_,rfl⟩;have W9:CS.length=(BX e).length:=by rw[<- E6];simp[BX,Xp.qM,Xp.wU]
 have n9:=zhM (cs:=CS) Pz (by rw[W9];simp[BX]);have pB:=ZQ hT Dg hold;let⟨g1,g2,g3⟩:=yu Pz;have jx:=λ(L:Z Xp) hL (N:Nat) hN hN1 zMw g T1 cp Q1=>zyD hρ U aq hF hB hS (T:=T) (cb:=cb) (ek:=e.kind) (ep:=e.pos) (en:=e.name) (em:=e.num) (ks:=e.kids) (cq:=e.b8) (et:=e.type) (L:=L) (CS:=CS) (g:=g) (N:=N) hT Dg (by rw[Xp.eta];exact hL) hN hN1 (by rw[Xp.eta];exact hv) (by rw[Xp.eta];exact hd) (by rw[Xp.eta];exact hR) (by rw[Xp.eta];exact E6) zMw (T0:=T1) (C:=cp) (Q:=Q1);unfold NU at CP;unfold P5 ZO at n9;have Pr:=Pz.2.2.2.1;have Qq:=Xp.Na (F:=yj T) (cb:=cb) e;generalize e.can (yj T) cb=R at Qq E6 ⊢;have fL:(nT (yj T) 0 cb.length).length=cb.length:=oC;let⟨ek,ep,en,em,ks,cq,et⟩:=e;simp only[BX,Xp.kL,Xp.lh,Xp.fH,Xp.pos_mk,Xp.j4,Xp.U2,Xp.Nu]at g1 g2 g3 CP n9 Pr Qq jx W9;obtain⟨k0,mc⟩:∃ k,ek=k:=⟨_,rfl⟩;rcases Pr with⟨rfl,_,rfl,rfl⟩|⟨rfl,_,rfl,rfl⟩|⟨rfl,_,O,rfl⟩|⟨rfl,_,O,rfl⟩|⟨rfl,_,O,h3,_⟩;subst Qq;have sR:zsM cb en=some (LR (GK cb en)):=if_pos (by omega);unfold LS
 cases hp:GK cb en with
 | none =>rw[hp]at sR;simp[U,bq,zGk,sR,LR]
 | some j =>rw[hp]at sR;have hj:j<cb.length:=(by have:=Z8 hp;simpa using this);have zI7:∀ h,(nT (yj T) 0 cb.length)[j]'h=yj T j:=λh=>(by simp[nT]);have E7:(j:Int)<cb.length:=(by omega);simp[U,bq,zGk,sR,LR,hj,E7,fL,zI7]
 rw[if_neg (by decide),if_neg (by decide)]at Qq;subst Qq;obtain rfl:CS=[]:=E6.symm;simp[bq]at CP n9;simp[U,bq,hC,CP];refine zd hρ U aq λK=>?_;simp[U,hW,n9];refine zd hρ U aq λK=>?_;simp[U,bq]
 rotate_left 2
 have mw:ks≠[]:=λq=>by rw[q]at O;cases O
 simp only[if_neg mw,if_neg h3]at CP n9;have hvar:∀ a∈cq,cb.length+a.vars.length<=60:=λa ha=>by have:=(Pz.2.2.2.2 a ha).2.2.1;omega
 obtain⟨KS,zGm⟩:∃ l,R.kids=l:=⟨_,rfl⟩;obtain⟨FA,V1⟩:∃ l,R.b8=l:=⟨_,rfl⟩;have hC2:CS=KS++FA.map Am.body:=by rw[<- E6,<- zGm,<- V1];rfl
 rw[Qq]at zGm V1;simp only[Xp.kL,Xp.lh]at zGm V1;rw[zGm,V1,if_neg (by decide),if_neg (by decide)]at Qq;have zGl:KS.length=ks.length:=by rw[<- zGm,aN]
 obtain⟨er,hW0⟩:∃ er,L3 cq (CS.drop ks.length)=er:=⟨_,rfl⟩;have ir:CS.take ks.length=KS:=by rw[hC2,<- zGl,List.take_left]
 rw[hW0,ir]at n9;rw[hC2,<- zGl,List.drop_left,<- V1,gI,zhg]at hW0;have zJc:er.map (HX (yj T) cb.length)=FA:=by rw[<- hW0,<- V1,gI];rfl
 have zGi:er.length=cq.length:=by rw[<- hW0,aN]
 have zQx:∀ a∈er,cb.length+a.vars.length<=60:=λa ha=>by rw[<- hW0]at ha;obtain⟨b,hb,rfl⟩:=aF.1 ha;exact hvar b hb
 have hl3:=λ(em:Int) (en:Z Nat) T1 cp Q1=>zyB hρ U aq hF (T:=T) (cb:=cb) (ek:=8) (ep:=ep) (en:=en) (em:=em) (et:=et) (KS:=KS) (er:=er) (n:=ks.length) (m:=cq.length) hT Dg zGi g2 zQx (T0:=T1) (C:=cp) (Q:=Q1);rw[zJc]at hl3;have zGo:FA.length=cq.length:=by rw[<- V1,aN]
 subst Qq;obtain⟨L,hL⟩:∃ L,ks++cq.map Am.body=L:=⟨_,rfl⟩;have Em:L.length=ks.length+cq.length:=by rw[<- hL,aR,aN]
 rw[hL]at CP W9 jx;obtain⟨n,hn⟩:∃ n,ks.length=n:=⟨_,rfl⟩;obtain⟨m,hm⟩:∃ m,cq.length=m:=⟨_,rfl⟩;rw[hn,hm]at Em;have jx:=jx L rfl (n+m) Em (by omega) (by rw[W9,Em]);rw[Em]at W9;simp[bq,Xs,hn,hm,Em]at CP n9;simp only[hn,hm]at hl3 zGl zGo;clear hC2 E6 ir hW0 zJc;simp[U,bq,hC,CP];refine jx m _ _ _ (aw.auto) ?_;rcases CS with _|⟨c,CS⟩;simp only[ku]at W9;omega;simp only[aL]at W9;simp[bq]at n9;simp[U,hW,n9,hF,pB,bq,AU];refine hl3 em en _ _ _ (aw.auto) ?_;have oR:List.take n (KS.map bP)=KS.map bP:=aP (by simp[zGl]);have po:List.take m (FA.map dW)=FA.map dW:=aP (by simp[zGo]);simp[U,zGl,zGo,oR,po,bq,AU,zae]
 all_goals
  have mw:ks≠[]:=λq=>by rw[q]at O;cases O
  simp only[iF,if_neg mw,if_true,fq,ku,Nat.add_zero]at CP n9 Qq jx W9;obtain⟨zQY,zt9⟩:∃ l,R.kids=l:=⟨_,rfl⟩;obtain⟨nm,oA⟩:∃ l,R.name=l:=⟨_,rfl⟩;obtain rfl:CS=zQY:=by rw[<- E6,<- zt9,Qq];simp[BX]
  rw[aP (by rw[W9];exact af _)]at n9;rw[Qq]at zt9 oA;simp only[Xp.kL,Xp.j4]at zt9 oA;rw[zt9,oA]at Qq;subst Qq;rcases CS with _|⟨c,CS⟩;exact absurd (bV W9.symm) mw;have jx:=jx ks rfl (CS.length+1) W9.symm (by have:(c::CS).length=ks.length:=W9;simp at this;omega) rfl;rw[<- W9]at n9;have zMv:ks.length=CS.length+1:=W9.symm;simp[bq,Xs,zMv]at CP n9;simp[U,bq,hC,CP];refine jx 0 _ _ _ (aw.auto (hH:=by simp[bq])) ?_;simp[U,hW,n9,hF,pB,bq,AU];refine zd hρ U aq λK=>?_;simp[U,bq,AU,<- mc,<- oA]
def zoY(G1:E.dA 68=dC (cz (ze6 20)))(zQJ:E.dA 69=dC (cz (Jl 20 [] [])))(zQL:E.dA 67=dC (Jg (SJ 20))){t:Z Nat}{F:Z (Z Nat)}(hv:Vl e)(hd:e.depth<=12)(hF:e.K3 [] []=F)(zGo:F.length<=400)(Dg:T.length<=400)(hT:WM (t::T++F))(C:HS) :
 aS I Pg 28 [enc e,enc (t::T)] C (enc (e.can (yj (t::T++F)) [])) C:=by
 refine fn hρ U aq Tryz.func28 ES.2 rfl (by simp) ?_ C;have M:ze6 20 e=some e:=if_pos ⟨by omega,hv⟩;have O:Jl 20 [] [] e=some F:=by rw[<- hF];exact if_pos ⟨hv,by omega,by simp;omega,by rw[hF];omega⟩
 have h3:SJ 20 e (t::T++F) [] []=some (e.can (yj (t::T++F)) []):=if_pos ⟨hv,by omega,hT,by simp;omega,by unfold Rm;simp;omega,rfl⟩;generalize e.can (yj (t::T++F)) []=R at h3 ⊢;clear hF;let⟨ek,ep,en,em,ks,cq,et⟩:=e;have c1:(T.length+1)*16<=1048576:=by omega
 have c3:(T.length+1+F.length)*16<=1048576:=by omega
 have js:∀ a c:Nat,¬ a+1+(c+1)<=a+1:=λa c=>by omega
 have hle:∀ a c:Nat,a+1+(c+1)<=a+(c+1)+1:=λa c=>by omega
 rcases F with _|⟨f,F⟩<;>simp only[fq,dx,aL]at h3 c3<;>simp[U,bq,G1,M,zQJ,O,zQL,h3,c1,c3,js,hle,ziW]
end
def Rf:∀ d,Valid I Pg 67 (dC (Jg (SJ d)))
 | 0=>v4 (fo Tryz.func67 lD.2) λe T o n r h C=>by obtain⟨⟨_,M,_⟩,rfl⟩:=bF h;have:=Xp.iY e;omega
 | d+1=>v4 (fo Tryz.func67 lD.2) λe T o n r h C=>by
   obtain⟨⟨M,O,h3,h4,h5,rfl⟩,rfl⟩:=bF h;exact ztC hρ (E:=EL [(147,dC (cB zsM)),(138,IB Xr),(149,IB SM),(148,dC (cB UD)),(144,dC (cB SR)),(67,dC (Jg (SJ d)))]) rfl (aj (ae (zr8 hρ) (ae (Me hρ) (ae (zm4 hρ) (ae (zr9 hρ) (ae (zho hρ) (ae (Rf d) aH))))))) rfl rfl rfl rfl rfl rfl M O h3 h4 h5 C
open Classical in
def X3(e:Xp)(T:Z (Z Nat)):Y Xp:=if Vl e/\e.depth<=12/\(e.K3 [] []).length<=400/\T.length<=400/\WM (T++e.K3 [] [])/\T≠[]then some (e.can (yj (T++e.K3 [] [])) [])else none
def zbM:Valid I Pg 28 (dC (cB X3)):=v2 (fo Tryz.func28 ES.2) λe T r h C=>by
 obtain⟨⟨M,O,h3,h4,h5,h6⟩,rfl⟩:=bF h;obtain⟨t,T,rfl⟩:=cK h6;exact zoY hρ (E:=EL [(68,dC (cz (ze6 20))),(69,dC (cz (Jl 20 [] []))),(67,dC (Jg (SJ 20)))]) rfl (aj (ae (zhn hρ 20) (ae (zxh hρ 20) (ae (Rf hρ 20) aH)))) rfl rfl rfl M O rfl h3 (by simp at h4;omega) h5 C
end
abbrev N2(l:Z (Z Nat)):Prop:=∀ y∈l,y∈XD
def FA(e:Xp):Prop:=∀ B o,N2 o->N2 (e.K3 B o)
def ziA:∀ (l:Z Xp),(∀ x∈l,FA x)->∀ B o,N2 o->N2 (Xp.pW B l o)
 | [],_,B,o,h=>by rw[Xp.pW];exact h
 |x::l,hl,B,o,h=>by rw[Xp.pW];exact ziA l (λy hy=>hl y (aD _ hy)) B _ (hl x (aB ..) B o h)
def Zg:∀ (l:Z Am),(∀ x∈l,FA x.body)->∀ B o,N2 o->N2 (Am.pW B l o)
 | [],_,B,o,h=>by rw[Am.pW];exact h
 |.mk p c v b::l,hl,B,o,h=>by rw[Am.pW];exact Zg l (λy hy=>hl y (aD _ hy)) B _ (hl _ (aB ..) _ o h)
def OE(M:e.kind=1->e.name∈XD)(O:∀ x∈BX e,FA x):FA e:=λB o h=>by
 let⟨ek,ep,en,em,ks,cq,et⟩:=e;rw[Xp.K3];refine Zg cq (λa ha=>O _ (eY _ (aF.2 ⟨a,ha,rfl⟩))) B _ (ziA ks (λx W=>O x (dQ _ W)) _ _ ?_);split;rename_i q;intro y hy;rcases bu.1 hy with hy|hy;exact h y hy;rw[ag]at hy;subst hy;exact M q.1;exact h
section
variable {bits:Int}
def zgM(n:Nat):N2 (j6 n):=λy hy=>by
 obtain⟨j,_,rfl⟩:=aF.1 hy;unfold O4;rcases(show j % 4=0\/j % 4=1\/j % 4=2\/j % 4=3 by omega)with h|h|h|h<;>rw[h]<;>decide
def zgb{n:Z Nat}(h:n∈XD):FA (zH n):=OE (λ_=>h) λx W=>by cases W
def zzp{f a:Xp}(hf:FA f)(ha:FA a):FA (Ue f a):=OE (λq=>by cases q) λx W=>by
 have W:x∈[f,a]:=W;simp only[ay,aU,or_false]at W;rcases W with rfl|rfl;exact hf;exact ha
def ziV(ih:∀ t,FA (gp d t (bA bits) N).2)(t:Tp)(he:FA e):∀ i,FA (lJ d t (bA bits) N e i).2
 | 0=>by rw[lJ];exact he
 |i+1=>by rw[lJ];exact zzp (ziV ih t he i) (ih _)
def znl:∀ (d:Nat) (t:Tp) (N:Z (Z Nat)),N2 N->FA (gp d t (bA bits) N).2:=by
 intro d
 induction d using Nat.strongRecOn with
 | _ d ih =>
   intro t N hN;refine PN (P:=FA) d t N (λd' t' e=>?_) (λd' t' e cg dd jz n hn=>?_) λt'=>?_;refine OE (λq=>by cases q) λx W=>?_;have W:x∈[(gp d' t' (bA bits) (N++[[119]])).2]:=W;rw[ag]at W;subst W;refine ih d' (by omega) _ _ λn hn=>?_;rcases bu.1 hn with hn|hn;exact hN n hn;rw[ag]at hn;subst hn;decide;refine OE (λq=>by cases q) λx W=>?_;rcases bu.1 W with W|W;have W:x∈[zH n]:=W;rw[ag]at W;subst W;exact zgb (hN n hn);obtain⟨a,ha,rfl⟩:=aF.1 W;let⟨j,hj⟩:=jf.1 ha;obtain⟨t2,rfl⟩:=O3 _ _ _ _ _ _ _ _ hj;refine ih d' (by omega) _ _ λn hn=>?_;rcases bu.1 hn with hn|hn;exact hN n hn;exact zgM _ n hn;refine MR (Q:=FA) (P:=FA) (λdd jz=>(AL dd (kH jz)).2.2.1) d (λn hn=>?_) (λdd jz c hc=>OE (λq=>by cases q) λx W=>by cases W) (λe he=>he) (λd' e t2 e2 i hi he=>?_) t';rcases hn with hn|rfl;exact zgb (hN n hn);exact zgb (by decide);subst e;exact ziV (λt=>ih d' (by omega) t N hN) t2 he i
def zp0(t:Tp):∀ (n:Nat),∀ e∈(Fx (bA bits) t n).2,e.name∈XD
 | 0,e,he=>by cases he
 | n + 1,e,he=>by
   have key:∀ u:Tp,varName u∈XD:=λu=>(by have M:=yL u 8;have O:=AV u (n:=8) (by decide);unfold varName;let⟨j,hj⟩:=bE M;have ju:j<varNames.length:=(by show j<8;omega);rw[hj,bO,az ju];exact dQ _ (ax ju));rw[Fx]at he;unfold Hf at he;dsimp only at he;split at he<;>rcases bu.1 he with he|he<;>first|exact zp0 t n e he|(rw[ag]at he;subst he;exact key _)
def zcs(hc:b6.length<=60):∃ d f v e',X3 (gX b6 (bA bits)).2.2.1 ((gX b6 (bA bits)).1.map (·.name)++[Yd 2])=some e'/\D7 d f 4 (bA bits) (gX b6 (bA bits)).1 (gX b6 (bA bits)).2.1 (gX b6 (bA bits)).2.2.1=some v /\
 D7 d f 4 (bA bits) (gX b6 (bA bits)).1 (gX b6 (bA bits)).2.1 e'=some v:=by
 let⟨d,f,r,h⟩:=ztu (bits:=bits) hc;have hlen:(gX b6 (bA bits)).1.length<=3:=(EK (D:=bA bits) (t:=⟨b6,0⟩) ⟨fM _,by show b6.length<=100000;omega⟩).2;have zpz:∀ e∈(gX b6 (bA bits)).1,e.name∈XD:=zp0 _ _;have hN:N2 ((gX b6 (bA bits)).1.map (·.name)):=λy hy=>by obtain⟨e,he,rfl⟩:=aF.1 hy;exact zpz e he
 have hfa:FA (gX b6 (bA bits)).2.2.1:=znl _ _ _ hN;have hdp:(gX b6 (bA bits)).2.2.1.depth<=7:=(Mh (EJ bits) 3 _ _).2.1;generalize (gX b6 (bA bits)).1=ctx at *;generalize (gX b6 (bA bits)).2.1=g at *;generalize (gX b6 (bA bits)).2.2.1=e at *;have hF:=hfa [] [] (λy hy=>by cases hy);have zGo:=zov (m:=XD) (Xp.Qt e [] [] jP) hF;have s4:XD.length=13:=rfl
 have hT:WM (ctx.map (·.name)++[Yd 2]++e.K3 [] []):=⟨by simp,λy hy=>by
  rcases bu.1 hy with hy|hy;rcases bu.1 hy with hy|hy;exact hN y hy;rw[ag]at hy;subst hy;decide
  exact hF y hy⟩
 have hR:Rm [] e:=by unfold Rm;simp;omega
 let⟨k1,k2⟩:=zlT (F:=yj (ctx.map (·.name)++[Yd 2]++e.K3 [] [])) (T:=ctx.map (·.name)++[Yd 2]++e.K3 [] []) ⟨λi j hi hj q=>zui hi hj q,λj hj=>zuh hT hj,λj hj=>zli hj⟩ h hR (Xp.zaR e _ [] [] λy hy=>eY _ hy);exact⟨d,f,_,_,if_pos ⟨h.pw.vl,by omega,by omega,by simp;omega,hT,by simp⟩,Y1 h,by rw[Y1 k1,k2]⟩
end
def zkB(vs:Z V):Y (Z (Z V)):=match vs with
 | [v]=>ob (bo.dec v:Y (Z Entry)) λl=>if l.length<=10000 then some ((l.map (·.name)).map b5)else none
 |_=>none
def ztb(h:l.length<=10000):zkB [enc l]=some ((l.map (·.name)).map b5):=by
 unfold zkB;simp only[bo.dD,eQ];exact if_pos h
section
variable {I:Nat->Value}(hρ:J.Good I)
include hρ
def zsa:Valid I Pg 23 (UB 1 zkB):=Valid.row (fo Tryz.func23 wY.2) λvs es _ h C hv=>by
 unfold zkB at h;split at h;simp only[aC]at h;let⟨l,hl,h⟩:=h;obtain⟨M,rfl⟩:=bF h;rw[bo.bB _ _ hl];exact Tc hρ (E:=EL []) rfl (aj aH) M hv;cases h
section
variable {E:Env}(U:E.P=Pg)(aq:bK I E)
include U aq
def Ps{f:Nat}(M:E.dA 20=zjg)(O:E.dA 8=zlt)(h3:E.dA 21=sI Oi)(h4:E.dA 23=UB 1 zkB)(h5:E.dA 28=dC (cB X3))(h7:E.dA 26=Wo d f 4)
 {bits:Int}  (zk5:b6.length<=60->∃ v e',X3 (gX b6 (bA bits)).2.2.1 ((gX b6 (bA bits)).1.map (·.name)++[Yd 2])=some e'/\D7 d f 4 (bA bits) (gX b6 (bA bits)).1 (gX b6 (bA bits)).2.1 (gX b6 (bA bits)).2.2.1=some v /\
 D7 d f 4 (bA bits) (gX b6 (bA bits)).1 (gX b6 (bA bits)).2.1 e'=some v) (C:HS):aS I Pg 5 [enc bits,enc b6] C (enc true) C:=by
 refine fn hρ U aq Tryz.func5 IM.2 rfl (by simp) ?_ C;by_cases hc:b6.length<=60
 case neg=>simp[U,M,zjg,O,zlt,hc]
 let⟨v,e',ka,rm,od⟩:=zk5 hc;have hlen:(gX b6 (bA bits)).1.length<=3:=(EK (D:=bA bits) (t:=⟨b6,0⟩) ⟨fM _,by show b6.length<=100000;omega⟩).2;rcases u9:gX b6 (bA bits)with⟨ctx,goal,e,t⟩;rw[u9]at ka rm od hlen;have me:=λC=>zcY (C:=C) u9;have HM:=λC=>zar (C:=C) u9;simp only at ka rm od hlen;generalize bA bits=D at rm od me HM;have vc:ctx.length<=10000:=by omega
 clear u9 zk5;let⟨gk,gn,gi,gh,gl⟩:=goal;let⟨ek,ep,en,em,cS,cq,⟨m8,mL,m9,zQQ,m7⟩⟩:=e;rw[show Yd 2=[118,50] from rfl]at ka;have oA:=ztb vc;have zOv:(ctx.map (·.name)).length<=3:=by rw[aN];exact hlen
 generalize ctx.map (·.name)=N at oA ka zOv;simp at oA;have qs:∀ k,k<=3->(k+1)*16<=1048576:=λk hk=>by omega
 rcases N with _|⟨n,N⟩<;>simp only[gL,dx]at ka
 simp[U,M,zjg,O,zlt,hc,h3,me,HM,aK,bq,h7,Wo,rm,h4,oA,h5,ka,od];have c1:=qs (N.length+1) zOv;simp[U,M,zjg,O,zlt,hc,h3,me,HM,aK,bq,h7,Wo,rm,h4,oA,h5,ka,od,c1,bf]
end
end
end Go.Proofs.YtfloillkpbhhhaaGreat
