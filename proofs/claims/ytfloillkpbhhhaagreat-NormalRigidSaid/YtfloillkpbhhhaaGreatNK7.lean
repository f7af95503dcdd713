import Derived.Test.YtfloillkpbhhhaaGreatNK6
import Derived.Test.YtfloillkpbhhhaaGreatJK11
import Derived.Test.YtfloillkpbhhhaaGreatNK3
import Derived.Test.YtfloillkpbhhhaaGreatJK9
import Derived.Test.YtfloillkpbhhhaaGreatJK10
set_option linter.all false
noncomputable section
namespace Go.Proofs.YtfloillkpbhhhaaGreat
open Go.J
open Go.J.bo (enc)
set_option maxRecDepth 100000
set_option maxHeartbeats 4000000
variable {b r tg:Bool}{dd:Decl}{Q:Ex->PT V->HS->Prop}{C:HS}{k:IntKind}{d i m:Nat}{A:Nat->Bool}{π:Nat->Nat}{T:PT V}{c:Scheme}{t:Tp}{α:Type}{v:V}{e:Xp}{N l cJ:Z (Z Nat)}{X eo:Z Am}{D:Z Decl}{mu:Z G}{n:Z Nat}{vs:Z V}{cl cM:Z Xp}
def zkv{l:Z Xp}:(Bq (l.map dL) 11 tg).heap C={ H:=C.H.set C.n (.arr 11 0 (l.map dL) false false true),n:=C.n+1,log:=C.n::C.log }:=QS λe he=>by
 obtain⟨x,_,rfl⟩:=aI.1 he;exact iC.bM (α:=Xp) x
def zoP:(Bq (l.map cF) 1 tg).heap C={ H:=C.H.set C.n (.arr 1 0 (l.map cF) false false true),n:=C.n+1,log:=C.n::C.log }:=QS λe he=>by
 obtain⟨x,_,rfl⟩:=aI.1 he;rfl
def zyB{l:Z Xp}:((l.map dL).all λe=>et (Nat.beq (dA e) 11) (e.all V.bM))=true:=aj.2 λe he=>by
 obtain⟨x,_,rfl⟩:=aI.1 he;have:=iC.bM (α:=Xp) x;rw[show iC.cells x=dL x from rfl]at this;rw[this,bL];rfl
def zFq:((l.map cF).all λe=>et (Nat.beq (dA e) 1) (e.all V.bM))=true:=aj.2 λe he=>by
 obtain⟨x,_,rfl⟩:=aI.1 he;rfl
def RM(e:Xp):Y (Z Xp):=if e.kids.length<=900/\e.cf.length<=1000/\(e.kids=[]->e.cf=[])then some (Sd e)else none
def zar(N cJ:Z (Z Nat)):Y (Z (Z Nat)):=if N.length<=1000/\cJ.length<=1000 then some (N++cJ)else none
def Vi(e:Xp)(i:Int):Y (Z (Z Nat)):=if 0<=i/\i<(e.kids.length:Int)+e.cf.length/\e.kids.length<=1000/\e.cf.length<=1000 then some (xe e i.toNat)else none
section
variable {I:Nat->Value}(hρ:J.Good I)
include hρ
section
variable {E:Env}(U:E.P=Pg)(aq:bH I E)
include U aq
theorem zx7(hC:E.dE 193=il)(M:e.kids.length<=900)(O:e.cf.length<=1000)(h3:e.kids=[]->e.cf=[])(C:HS):aT I Pg 114 [enc e] C (enc (Sd e)) C:=by
 refine fn hρ U aq Tryz.func114 BC.2 rfl (by simp) ?_ C;unfold Sd;obtain⟨ek,ep,en,em,ks,eo,⟨mw,mj,my,xL,mu⟩⟩:=e;simp only[Xp.yo,Xp.yF]at M O h3 ⊢
 cases ks with
 | nil =>
   obtain rfl:=h3 rfl;simp[U,bL,hC,il];refine vC hρ U aq 0 (nn:=0) (λi (_:Unit)=>[(3,.sl [] true),(11,.int .i64 0),(12,.int .i64 0)]) (λi _=>[]) (λi _=>True) () (aw.auto) trivial ?_ ?_
   . intro _ _ K;simp[xu,U];refine bO.mk (aw.auto (TL:=[(3,.sl [] true)]) (HL:=[]) (n:=0)) ?_;simp[U]
   omega
 | cons k ks =>
   have hl:ks.length+1<=1000:=by simp only[aX]at M;omega
   have eb:=λtg C=>zkv (l:=k::ks) (tg:=tg) (C:=C)
   have b6:=zyB (l:=k::ks);simp only[aR,bL]at eb b6;simp only[aX]at M;simp[U,bL,hC,il,hl,b6,eb,aJ];have pT:(eo.map Am.body).length=eo.length:=aL ..
   refine vC hρ U aq eo.length (nn:=1) (λj (_:Unit)=>[(3,.own 0 j 0 (ks.length+1+j) none),(10,.sl (eo.map gL) false),(11,.int .i64 (eo.length:Int)),(12,.int .i64 (j:Int))])
    (λj _=>[(0,.arr 11 j ((k::ks++(eo.map Am.body).take j).map dL) false false true)]) (λj _=>True) () (aw.auto (hH:=by simp[bL])) trivial ?_ ?_
   . intro _ _ K;have wa:(eo.map Am.body).take eo.length=eo.map Am.body:=aZ (by simp);rw[wa];have KR:(k::ks++eo.map Am.body).length=ks.length+1+eo.length:=by simp;omega
     have Hb:(k::ks++eo.map Am.body).map dL=[V.int .i64 k.kind,.int .i64 k.pos,.str k.name,.int .i64 k.num,.sl (k.kids.map dL) false,.sl (k.cf.map gL) false,.int .i64 k.type.kind,.str k.type.name,.int .i64 k.type.id,.int .i64 k.type.home,.sl (k.type.args.map au) false]::(ks.map dL++eo.map (dL ∘ Am.body)):=by simp[bL k]
     generalize k::ks++eo.map Am.body=L at KR Hb;simp[xu,U];refine bO.mk (aw.auto (TL:=[(3,.own 0 eo.length 0 (ks.length+1+eo.length) none)]) (HL:=[(0,.arr 11 eo.length (L.map dL) false false true)]) (n:=1)) ?_;rw[<- KR];have mA:List.take L.length (L.map dL)=L.map dL:=aZ (by simp);simp[U,mA,Hb]
     grind [zgQ]
   . intro j _ hj _ K hK;have js:(j:Int)<eo.length:=by omega
     have cy:=bI (i:=j);have m1:j*14 / 14=j:=by omega
     have m2:j*14 % 14=0:=by omega
     have bc:=hK () trivial;have hnx:(eo.map Am.body).take (j+1)=(eo.map Am.body).take j++[eo[j].body]:=by rw[gq (by omega),ja]
     have KR:(k::ks++(eo.map Am.body).take j).length=ks.length+1+j:=by simp;omega
     rw[hnx,<- gu,show ks.length+1+(j+1)=ks.length+1+j+1 by omega]at bc;generalize k::ks++(eo.map Am.body).take j=L at KR bc;rw[<- KR]at bc ⊢;have eA:(L.length+1)*152<=1048576:=aO (aN 152 (show L.length+1<=6000 by omega)) (by decide);have mA:List.take L.length (L.map dL)=L.map dL:=aZ (by simp);obtain⟨a,ha⟩:∃ a,eo[j]=a:=⟨_,rfl⟩;rw[ha]at bc;obtain⟨ap,ac,av,⟨bk,bp,bn,bm,bl,ba,⟨tk,tn,ti,th,tl⟩⟩⟩:=a;simp only[Am.Sg]at bc;simp[xu,U,hj,js,m1,m2,ha,jO,eA,mA,cy,aY,-Int.natCast_add];exact bc _ _ (aw.auto (hH:=by simp[bL]))
theorem zlt(hC:E.dE 198=gp)(M:N.length<=1000)(O:cJ.length<=1000)(C:HS):aT I Pg 123 [enc N,enc cJ] C (enc (N++cJ)) C:=by
 refine fn hρ U aq Tryz.func123 N7.2 rfl (by simp) ?_ C
 cases N with
 | nil =>
   have k2:cJ.length*16<=1048576:=aO (aN 16 O) (by decide)
   cases cJ with
   |nil=>simp[U,hC,gp]
   | cons m cJ =>
     rw[aX]at k2;simp[U,hC,gp,k2]
 | cons x N =>
   have hl:N.length+1<=1000:=M;have b6:=zFq (l:=x::N);have eb:=λtg C=>zoP (l:=x::N) (tg:=tg) (C:=C)
   simp only[aR,cF]at eb b6;have k2:(N.length+1+cJ.length)*16<=1048576:=aO (aN 16 (show N.length+1+cJ.length<=2000 by omega)) (by decide);have k3:(N.length+1)*16<=1048576:=aO (aN 16 hl) (by decide)
   cases cJ with
   |nil=>simp[U,hC,gp,hl,b6,eb,cF,k3,aJ]
   | cons m cJ =>
     rw[aX]at k2;have kq:¬ N.length+1+(cJ.length+1)<=N.length+1:=by omega
     simp[U,hC,gp,hl,b6,eb,k2,kq,cF,aJ];refine⟨by omega,?_⟩;rw[aZ (by simp;omega)]
     simp_all
theorem zkK   (hi:i<e.kids.length+e.cf.length) (hk:e.kids.length<=1000) (hka:e.cf.length<=1000) (C:HS):aT I Pg 124 [enc e,.int .i64 (i:Int)] C (enc (xe e i)) C:=by
 refine fn hρ U aq Tryz.func124 La.2 rfl (by simp) ?_ C;obtain⟨ek,ep,en,em,ks,eo,⟨mw,mj,my,xL,mu⟩⟩:=e;simp only[Xp.yo,Xp.yF]at hi hk hka;by_cases h4:ek=4
 . simp_all [xe,bL]
 . by_cases h7:ek=7
   . simp_all [xe,bL]
   . by_cases h6:ek=6
     . subst h6;by_cases M:i=1
       . simp_all [xe,bL]
       . have vj:¬ (i:Int)=1:=by omega
         simp_all [xe,bL]
     . by_cases h8:ek=8
       . subst h8;by_cases W5:ks.length<=i
         . have zEe:¬ (i:Int)<ks.length:=by omega
           obtain⟨j,rfl⟩:∃ j,i=ks.length+j:=⟨i-ks.length,by omega⟩;have hj:j<eo.length:=by omega
           have hw:IntKind.i64.wrap (((ks.length+j:Nat):Int)-(ks.length:Int))=(j:Int):=by rw[show (((ks.length+j:Nat):Int)-(ks.length:Int))=(j:Int) by omega];exact wrap_i64 (by omega) (by omega)
           have m1:j*14 / 14=j:=by omega
           have m3:(j*14+2) / 14=j:=by omega
           obtain⟨a,ha⟩:∃ a,eo[j]=a:=⟨_,rfl⟩;obtain⟨ap,ac,av,⟨bk,bp,bn,bm,bl,ba,⟨tk,tn,ti,th,tl⟩⟩⟩:=a
           simp_all [xe,bL,jO]
         . have zEe:(i:Int)<ks.length:=by omega
           rw[show xe (.mk 8 ep en em ks eo (.mk mw mj my xL mu)) i=[] by simp[xe,W5]];simp[U,bL,zEe,W5]
       simp_all [xe,bL]
end
def Wy:Valid I Pg 114 (dH (cO RM)):=v1 (fo Tryz.func114 BC.2) λa r h C=>by
 obtain⟨⟨M,O,h3⟩,rfl⟩:=bF h;exact zx7 hρ (E:=EL [(193,il)]) rfl (ag (ae (yX hρ) aG)) rfl M O h3 C
def zBI:Valid I Pg 123 (dH (dC zar)):=v2 (fo Tryz.func123 N7.2) λa b r h C=>by
 obtain⟨⟨M,O⟩,rfl⟩:=bF h;exact zlt hρ (E:=EL [(198,gp)]) rfl (ag (ae (BQ hρ) aG)) rfl M O C
def zlE:Valid I Pg 124 (dH (dC Vi)):=v2 (fo Tryz.func124 La.2) λa b r h C=>by
 obtain⟨⟨M,O,h3,h4⟩,rfl⟩:=bF h;obtain⟨i,rfl⟩:=bK M;exact zkK hρ (E:=EL []) rfl (ag aG) (by omega) h3 h4 C
end
def zEP(D:Z Decl)(l:Z Am):Prop:=∃ (k:Nat) (d:Decl),D[k]?=some d/\K5 D l=(k:Int)/\l.length=d.ctors.length/\(∀ (i:Nat) (a:Am) (c:Ctor),l[i]?=some a->d.ctors[i]?=some c->a.vars.length=c.fields.length/\a.vars.Nodup)/\∀ a∈l,(zq D a.dE 0).isSome=true
def zMu(D:Z Decl)(e:Xp):Prop:=(e.kind=2->(zq D e.name 0).isSome=true)/\(e.kind=8->zEP D e.cf)
inductive Wf (D:List Decl):Xp->Prop
 |mk {e:Xp}:S7 e->zMu D e->(∀ x∈Sd e,Wf D x)->Wf D e
theorem Wf.zIe(h:Wf D e):S7 e:=by cases h;assumption
theorem Wf.dw(h:Wf D e):zMu D e:=by cases h;assumption
theorem Wf.ch(h:Wf D e):∀ x∈Sd e,Wf D x:=by cases h;assumption
def UK(h:(zq D n 0).isSome=true):∃ i k:Nat,Dl D n=⟨(i:Int),(k:Int),true⟩:=by
 obtain⟨⟨i,k⟩,hq⟩:=bN.1 h;exact⟨i,k,by unfold Dl;rw[hq]⟩
section
variable {I:Nat->Value}(hρ:J.Good I)
include hρ
section
variable {E:Env}(U:E.P=Pg)(aq:bH I E)
include U aq
theorem ziK(Ny:E.dE 120=qX){k:Nat}{am:Am}(eN:am.vars.Nodup)(hv:am.vars.length<=90){sz:Nat}(b8:sz=94)
 (hT:aw 0 T C (dW [(0,.sl (D.map aP) false),(4,.ptr 1 0 0),(10,.int .i64 (k:Int)),(13,.ptr 2 0 0),(50,.sl (X.map gL) false),(51,.int .i64 (X.length:Int)),(52,.int .i64 (i:Int)),(75,.sl (am.vars.map cF) false),(76,.int .i64 (am.vars.length:Int)),(77,.int .i64 ((0:Nat):Int))]) { H:=dW [(1,.arr 2 0 [[.int .i64 0,.int .i64 0]] true false false),(2,box (gL am))],n:=3,log:=[] })
 (hQ:Q (.exit 4) (dW [(0,.sl (D.map aP) false),(4,.ptr 1 0 0),(10,.int .i64 (k:Int)),(50,.sl (X.map gL) false),(51,.int .i64 (X.length:Int)),(52,.int .i64 (i:Int))]) { H:=dW [(1,.arr 2 0 [[.int .i64 0,.int .i64 0]] true false false)],n:=3,log:=[] }):Ls I E 0 sz (.loop vW) T C Q:=by
 subst b8;refine vC hρ U aq am.vars.length (nn:=3) (λj (_:Unit)=>[(0,.sl (D.map aP) false),(4,.ptr 1 0 0),(10,.int .i64 (k:Int)),(13,.ptr 2 0 0),(50,.sl (X.map gL) false),(51,.int .i64 (X.length:Int)),(52,.int .i64 (i:Int)),(75,.sl (am.vars.map cF) false),(76,.int .i64 (am.vars.length:Int)),(77,.int .i64 (j:Int))]) (λj _=>[(1,.arr 2 0 [[.int .i64 0,.int .i64 0]] true false false),(2,box (gL am))]) (λj _=>True) () hT trivial ?_ ?_
 . intro _ _ K;simp[vW,U];exact bO.mk (aw.auto) hQ
 . intro j _ hj _ K hK;have js:(j:Int)<am.vars.length:=by omega
   have qt:j<=am.vars.length:=by omega
   have cy:=bI (i:=j);have An:(am.vars.take j).length<=1000000:=by rw[eB];omega
   have bc:=hK () trivial;obtain⟨v,Ks⟩:∃ v,am.vars[j]=v:=⟨_,rfl⟩
   have ew:v ∉ am.vars.take j:=by
    grind [List.mem_iff_getElem,List.length_take,List.getElem_inj]
   have UE:decide (v∈am.vars.take j)=false:=decide_eq_false ew;clear eN ew;obtain⟨ap,ac,av,⟨bk,bp,bn,bm,NS,NU,⟨HW,H3,HU,HT,HX⟩⟩⟩:=am;simp only[Am.BR]at hj js qt An UE Ks;obtain⟨tv,CM⟩:∃ tv,av.take j=tv:=⟨_,rfl⟩;have zDV:List.take j (av.map cF)=tv.map cF:=by rw[<- uH,CM]
   rw[CM]at An UE;simp[vW,U,jO,hj,js,qt,Ks,EE,JP,bounds,V5,fV,OW,zDV,Ny,qX,An,UE,cy,-List.map_take,-Int.natCast_add];exact bc _ _ (aw.auto (hH:=by simp[jO]))
def zrt(ud:E.dE 87=BL)(Pr:E.dE 196=Ju)(Ny:E.dE 120=qX)(hD:FZ D)(hX:e.cf.length<=1000)(P4:∀ a∈e.cf,a.vars.length<=90)(hw:zEP D e.cf)(C:HS) :
 aT I Pg 121 [enc D,enc e] C (EP true) C:=by
 refine fn hρ U aq Tryz.func121 qI.2 rfl (by simp) ?_ C;have iz:D.length<=100000/\∀ d∈D,d.ctors.length<=100000:=⟨by have:=hD.1;omega,λd hd=>by have:=(hD.2 d hd).2.1;omega⟩;obtain⟨k,dd,hk,hai,hlen,zL8,Zp⟩:=hw;obtain⟨nh,ld⟩:=aM.1 hk
 have ke:zcZ D e.cf=some ((k:Int),true):=by
  have:En D e.cf=((k:Int),true):=by unfold En;rw[hai];simp
  rw[<- this];exact if_pos hD
 have q1:k*4 / 4=k:=by omega
 have q2:(k*4+3) / 4=k:=by omega
 obtain⟨ek,ep,en,em,cM,X,⟨mw,mj,my,xL,mu⟩⟩:=e;simp only[Xp.yF]at hX P4 ke hlen zL8 Zp;simp[U,bL];refine vC hρ U aq X.length (nn:=2) (λi (_:Unit)=>[(0,.sl (D.map aP) false),(3,.ptr 0 0 0),(4,.ptr 1 0 0),(17,.sl (X.map gL) false),(18,.int .i64 (X.length:Int)),(19,.int .i64 (i:Int))]) (λi _=>[(0,.arr 11 0 [[.int .i64 ek,.int .i64 ep,.str en,.int .i64 em,.sl (cM.map dL) false,.sl (X.map gL) false,.int .i64 mw,.str mj,.int .i64 my,.int .i64 xL,.sl (mu.map au) false]] true false false),(1,.arr 2 0 [[.int .i64 0,.int .i64 0]] true false false)]) (λi _=>True) () (aw.auto) trivial ?_ ?_
 . intro _ _ K;simp[BN,U];refine bO.mk (aw.auto (TL:=[(0,.sl (D.map aP) false),(3,.ptr 0 0 0),(4,.ptr 1 0 0)]) (HL:=[(0,.arr 11 0 [[.int .i64 ek,.int .i64 ep,.str en,.int .i64 em,.sl (cM.map dL) false,.sl (X.map gL) false,.int .i64 mw,.str mj,.int .i64 my,.int .i64 xL,.sl (mu.map au) false]] true false false),(1,.arr 2 0 [[.int .i64 0,.int .i64 0]] true false false)]) (n:=2)) ?_;simp[U,Pr,Ju,ke];refine vC hρ U aq X.length (nn:=3) (λi (_:Unit)=>[(0,.sl (D.map aP) false),(4,.ptr 1 0 0),(10,.int .i64 (k:Int)),(50,.sl (X.map gL) false),(51,.int .i64 (X.length:Int)),(52,.int .i64 (i:Int))]) (λi _=>[(1,.arr 2 0 [[.int .i64 0,.int .i64 0]] true false false)]) (λi _=>True) () (aw.auto) trivial ?_ ?_
   . intro _ _ K;simp[vV,U];refine bO.mk (aw.auto (TL:=[(4,.ptr 1 0 0)]) (HL:=[(1,.arr 2 0 [[.int .i64 0,.int .i64 0]] true false false)]) (n:=3)) ?_;simp[U]
   . intro i _ hi _ K hK;have cj:(i:Int)<X.length:=by omega
     have cy:=bI (i:=i);have m1:i*14 / 14=i:=by omega
     have hic:i<dd.ctors.length:=by omega
     have zEf:(i:Int)<dd.ctors.length:=by omega
     have m3:i*3 / 3=i:=by omega
     have m4:(i*3+2) / 3=i:=by omega
     have bc:=hK () trivial;have zL7:=P4 _ (az hi);obtain⟨am,DQ⟩:∃ am,X[i]=am:=⟨_,rfl⟩;obtain⟨cc,td⟩:∃ cc,dd.ctors[i]=cc:=⟨_,rfl⟩;obtain⟨M,O⟩:=zL8 i am cc (by rw[ax hi,DQ]) (by rw[ax hic,td]);rw[DQ]at zL7;have vj:(am.vars.length:Int)=(cc.fields.length:Int):=by omega
     have Zt:∀ h,dd.ctors[i]'h=cc:=λ_=>td
     have Pb:=λT C Q=>ziK hρ U aq Ny (D:=D) (k:=k) (i:=i) (X:=X) (am:=am) O zL7 (sz:=94) rfl (T:=T) (C:=C) (Q:=Q)
     obtain⟨ap,ac,av,⟨bk,bp,bn,bm,NS,NU,⟨HW,H3,HU,HT,HX⟩⟩⟩:=am;cases dd;simp only[Am.BR]at M vj;simp only at hic zEf Zt;simp[vV,U,hi,cj,m1,DQ,jO,nh,q1,q2,ld,aP,hic,zEf,m3,m4,Zt,iD,M,vj];refine Pb _ _ _ (aw.auto (by simp[M]) (by simp[jO])) ?_;simp[vV,U,cy,-Int.natCast_add];exact bc _ _ (aw.auto)
 . intro i _ hi _ K hK;have cj:(i:Int)<X.length:=by omega
   have cy:=bI (i:=i);have m1:i*14 / 14=i:=by omega
   have bc:=hK () trivial;obtain⟨am,DQ⟩:∃ am,X[i]=am:=⟨_,rfl⟩;have Pc:=Zp _ (az hi);rw[DQ]at Pc;obtain⟨fi,fk,B0⟩:=UK Pc;have yv:findF D am.dE=some ⟨(fi:Int),(fk:Int),true⟩:=by rw[<- B0];exact if_pos iz
   clear Pc B0;obtain⟨ap,ac,av,⟨bk,bp,bn,bm,NS,NU,⟨HW,H3,HU,HT,HX⟩⟩⟩:=am;simp only[Am.Md]at yv;simp[BN,U,hi,cj,m1,DQ,jO,ud,BL,yv,cy,-Int.natCast_add];exact bc _ _ (aw.auto)
end
open Classical in
def Ty(vs:Z V):Y V:=match vs with
 | [a,b]=>W (bo.dec a:Y (Z Decl)) λD=>W (bo.dec b:Y Xp) λe=>if FZ D/\e.cf.length<=1000/\(∀ a∈e.cf,a.vars.length<=90)/\zEP D e.cf then some (EP true)else none
 |_=>none
theorem zru(M:FZ D)(O:e.cf.length<=1000)(h3:∀ a∈e.cf,a.vars.length<=90)(h4:zEP D e.cf):Ty [enc D,enc e]=some (EP true):=by
 unfold Ty
 simp_all
def zvH:Valid I Pg 121 (dH Ty):=Valid.dH (fo Tryz.func121 qI.2) λvs v h C=>by
 unfold Ty at h;split at h
 . simp only[aA]at h;obtain⟨D,hD,e,he,h⟩:=h;obtain⟨⟨M,O,h3,h4⟩,rfl⟩:=bF h;rw[bo.bq _ _ hD,bo.bq _ _ he];exact zrt hρ (E:=EL [(87,BL),(196,Ju),(120,qX)]) rfl (ag (ae (zgi hρ) (ae (zt9 hρ) (ae (Yf hρ) aG)))) rfl rfl rfl M O h3 h4 C
 . cases h
end
open Classical in
def EH(d:Nat)(vs:Z V):Y V:=match vs with
 | [a,b,c]=>W (bo.dec a:Y (Z Decl)) λD=>W (bo.dec b:Y (Z (Z Nat))) λcJ=>W (bo.dec c:Y Xp) λe=>if FZ D/\cJ.length+4*d<=900/\e.depth<=d/\Wf D e then some (EP (Hu d cJ e))else none
 |_=>none
theorem WR(M:FZ D)(O:cJ.length+4*d<=900)(h3:e.depth<=d)(h4:Wf D e):EH d [enc D,enc cJ,enc e]=some (EP (Hu d cJ e)):=by
 unfold EH
 simp_all
def Tm(h:EH d vs=some v):∃ (D:Z Decl) (cJ:Z (Z Nat)) (e:Xp),vs=[enc D,enc cJ,enc e]/\FZ D/\cJ.length+4*d<=900/\e.depth<=d/\Wf D e/\v=EP (Hu d cJ e):=by
 unfold EH at h;split at h
 . simp only[aA]at h;obtain⟨D,hD,cJ,hM,e,he,h⟩:=h;obtain⟨⟨M,O,h3,h4⟩,rfl⟩:=bF h;exact⟨D,cJ,e,by rw[bo.bq _ _ hD,bo.bq _ _ hM,bo.bq _ _ he],M,O,h3,h4,rfl⟩
 . cases h
section
variable {I:Nat->Value}(hρ:J.Good I)
include hρ
section
variable {E:Env}(U:E.P=Pg)(aq:bH I E)
include U aq
def zrs(zHp:E.dE 124=dH (dC Vi))(zHc:E.dE 123=dH (dC zar))(zHn:E.dE 59=dH (EH d))(hD:FZ D)(hM:cJ.length+4*(d+1)<=900){ek em mw my xL:Int}{en mj:Z Nat}(hv:S7 (.mk ek 0 en em cM eo (.mk mw mj my xL mu)))(eb:cl=Sd (.mk ek 0 en em cM eo (.mk mw mj my xL mu)))
 (Zr:∀ x∈cl,x.depth<=d) (V0:∀ x∈cl,Wf D x)  (hr:N1 (Hu d) cJ (.mk ek 0 en em cM eo (.mk mw mj my xL mu)) 0 cl=r) {sz:Nat} (b8:sz=85)   
 (hT:aw 0 T C (dW [(0,.sl (D.map aP) false),(1,.sl (cJ.map cF) false),(5,.ptr 0 0 0),(6,.ptr 1 0 0),(64,.sl (cl.map dL) false),(65,.int .i64 (cl.length:Int)),(66,.int .i64 ((0:Nat):Int))]) { H:=dW [(0,.arr 11 0 [[.int .i64 ek,.int .i64 0,.str en,.int .i64 em,.sl (cM.map dL) false,.sl (eo.map gL) false,.int .i64 mw,.str mj,.int .i64 my,.int .i64 xL,.sl (mu.map au) false]] true false false),(1,.arr 2 0 [[.int .i64 0,.int .i64 0]] true false false)],n:=2,log:=[] })
 (DP:r=true->Q (.exit 1) (dW [(6,.ptr 1 0 0)]) { H:=dW [(1,.arr 2 0 [[.int .i64 0,.int .i64 0]] true false false)],n:=2,log:=[] })
 (E1:r=false->Q .ret (dW [(6,.ptr 1 0 0)]) { H:=dW [(1,.arr 2 0 [[.int .i64 9,.int .i64 0]] true false false)],n:=2,log:=[] }):Ls I E 0 sz (.loop wS) T C Q:=by
 subst b8;have hlen:=SA hv;have zMe:cl.length=cM.length+eo.length:=by rw[eb];unfold Sd;simp
 simp only[Xp.yo,Xp.yF]at hlen;refine vC hρ U aq cl.length (nn:=2) (λi (_:Unit)=>[(0,.sl (D.map aP) false),(1,.sl (cJ.map cF) false),(5,.ptr 0 0 0),(6,.ptr 1 0 0),(64,.sl (cl.map dL) false),(65,.int .i64 (cl.length:Int)),(66,.int .i64 (i:Int))]) (λi _=>[(0,.arr 11 0 [[.int .i64 ek,.int .i64 0,.str en,.int .i64 em,.sl (cM.map dL) false,.sl (eo.map gL) false,.int .i64 mw,.str mj,.int .i64 my,.int .i64 xL,.sl (mu.map au) false]] true false false),(1,.arr 2 0 [[.int .i64 0,.int .i64 0]] true false false)]) (λi _=>N1 (Hu d) cJ (.mk ek 0 en em cM eo (.mk mw mj my xL mu)) i (cl.drop i)=r) () hT (by simpa using hr) ?_ ?_
 . intro _ h K;rw[bz,N1]at h;have cH:=DP h.symm;simp[wS,U];exact bO.mk (aw.auto) cH
 . intro i _ hi h K hK;have cj:(i:Int)<cl.length:=by omega
   have cy:=bI (i:=i);have m1:i*11 / 11=i:=by omega
   rw[aK hi,N1]at h;have zMd:=Zr _ (az hi);have hwx:=V0 _ (az hi);obtain⟨x,hx⟩:∃ x,cl[i]=x:=⟨_,rfl⟩;rw[hx]at h zMd hwx;have pT:=zfz hv i
   have zKe:Vi (.mk ek 0 en em cM eo (.mk mw mj my xL mu)) (i:Int)=some (xe (.mk ek 0 en em cM eo (.mk mw mj my xL mu)) i):=by
    refine if_pos ⟨by omega,?_,?_,?_⟩
    . simp only[Xp.yo,Xp.yF];omega
    . simp only[Xp.yo];omega
    . simp only[Xp.yF];omega
   obtain⟨B,hB⟩:∃ B,xe (.mk ek 0 en em cM eo (.mk mw mj my xL mu)) i=B:=⟨_,rfl⟩;rw[hB]at h pT zKe;have hwF:zar cJ B=some (cJ++B):=if_pos ⟨by omega,by omega⟩;have vu:=WR (d:=d) (cJ:=cJ++B) (e:=x) hD (by rw[bB];omega) zMd hwx;obtain⟨xk,xp,xn,xm,ztW,ztX,⟨zLe,zLc,zLf,zLg,zLd⟩⟩:=x
   cases hq:Hu d (cJ++B) (.mk xk xp xn xm ztW ztX (.mk zLe zLc zLf zLg zLd))with
   | true =>
     rw[hq]at vu h;rw[gH]at h;have bc:=hK () h;simp[bL]at vu;simp[wS,U,hi,cj,m1,hx,bL,zHp,zKe,zHc,hwF,zHn,vu,cy,-Int.natCast_add];exact bc _ _ (aw.auto)
   | false =>
     rw[hq]at vu h;rw[sD]at h;have cH:=E1 h.symm;simp[bL]at vu;simp[wS,U,hi,cj,m1,hx,bL,zHp,zKe,zHc,hwF,zHn,vu];exact bO.mk (aw.auto) cH
def zwn  (Ny:E.dE 120=qX) (ud:E.dE 87=BL) (hAn:E.dE 121=dH Ty) (RE:E.dE 114=dH (cO RM)) (zHp:E.dE 124=dH (dC Vi)) (zHc:E.dE 123=dH (dC zar)) (zHn:E.dE 59=dH (EH d))    (hD:FZ D) (hM:cJ.length+4*(d+1)<=900) (Zr:e.depth<=d+1) (hw:Wf D e) (C:HS) :
 aT I Pg 59 [enc D,enc cJ,enc e] C (EP (Hu (d+1) cJ e)) C:=by
 refine fn hρ U aq Tryz.func59 Cq.2 rfl (by simp) ?_ C;have iz:D.length<=100000/\∀ d∈D,d.ctors.length<=100000:=⟨by have:=hD.1;omega,λd hd=>by have:=(hD.2 d hd).2.1;omega⟩;have lP:=hw.zIe;have hlen:=SA lP
 have rB:=λcl eb M O r hr T C Q=>zrs hρ U aq (d:=d) zHp zHc zHn hD hM (ek:=e.kind) (em:=e.num) (en:=e.name) (cM:=e.kids) (eo:=e.cf) (mw:=e.type.kind) (mj:=e.type.name) (my:=e.type.id) (xL:=e.type.home) (mu:=e.type.args) (by
  have e1:e.pos=0:=lP.1;have:Xp.mk e.kind 0 e.name e.num e.kids e.cf (.mk e.type.kind e.type.name e.type.id e.type.home e.type.args)=e:=by rw[<- e1,G.eta,Xp.eta]
  rw[this];exact lP) (cl:=cl) eb M O (r:=r) hr (sz:=85) rfl (T:=T) (C:=C) (Q:=Q)
 have e0:Xp.mk e.kind 0 e.name e.num e.kids e.cf (.mk e.type.kind e.type.name e.type.id e.type.home e.type.args)=e:=by rw[<- lP.1,G.eta,Xp.eta]
 have I8:=rB (Sd e) (by rw[e0]) (λx hx=>by have:=XR hx;omega) hw.ch _ (by rw[e0]);clear rB e0;have Hh:RM e=some (Sd e):=if_pos ⟨by omega,by omega,hlen.2.2⟩;have hsc:Hu (d+1) cJ e=((if e.kind=1 then decide (e.name∈cJ)else true)&&N1 (Hu d) cJ e 0 (Sd e)):=by rw[Hu]
 rw[hsc];have zHj:cJ.length<=1000000:=by omega
 have zMh:e.kind=8->Ty [enc D,enc e]=some (EP true):=λh8=>by
  have zN5:=hw.dw.2 h8;exact zru hρ hD (by omega) (λa ha=>by have:=(lP.2.2.2.2 a ha).2.2.1;omega) zN5
 have hfn:e.kind=2->∃ i k:Nat,findF D e.name=some ⟨(i:Int),(k:Int),true⟩:=λO=>by
  obtain⟨i,k,B0⟩:=UK (hw.dw.1 O);exact⟨i,k,by rw[<- B0];exact if_pos iz⟩
 have zxt:e.kind=1->Sd e=[]:=λM=>by
  rcases lP.2.2.2.1 with⟨_,_,k1,k2⟩|⟨h,_⟩|⟨h,_⟩|⟨h,_⟩|⟨h,_⟩
  . unfold Sd;rw[k1,k2];rfl
  all_goals omega
 have oT:e.kind=1\/e.kind=2\/e.kind=4\/e.kind=5\/e.kind=8:=by
  rcases lP.2.2.2.1 with⟨h,_⟩|⟨h,_⟩|⟨h,_⟩|⟨h,_⟩|⟨h,_⟩
  . exact .inl h
  . exact .inr (.inl h)
  . exact .inr (.inr (.inl h))
  . exact .inr (.inr (.inr (.inl h)))
  . exact .inr (.inr (.inr (.inr h)))
 have pL:e.pos=0:=lP.1;clear lP hlen hw hsc iz;obtain⟨cl,eb⟩:∃ cl,Sd e=cl:=⟨_,rfl⟩;rw[eb]at I8 Hh zxt ⊢;obtain⟨rr,hrr⟩:∃ rr,N1 (Hu d) cJ e 0 cl=rr:=⟨_,rfl⟩;rw[hrr]at I8 ⊢;clear eb;obtain⟨q0,K1⟩:∃ q0,(if e.kind=1 then decide (e.name∈cJ)else true)=q0:=⟨_,rfl⟩;rw[K1];obtain⟨ek,ep,en,em,cM,eo,⟨mw,mj,my,xL,mu⟩⟩:=e;simp only[Xp.fw,Xp.pos_mk,Xp.jC,Xp.zno,Xp.yo,Xp.yF,Xp.zgm,G.fw,G.jC,G.o5,G.sJ,G.fC]at I8 oT pL zxt hfn zMh ⊢;subst pL;rcases oT with rfl|rfl|rfl|rfl|rfl
 . obtain rfl:=zxt rfl;have hrt:rr=true:=by rw[<- hrr];rfl
   subst hrt;have hbb:decide (en∈cJ)=q0:=by rw[<- K1];rfl
   rw[fM]
   cases q0 with
   | true =>
     simp[U,bL,Ny,qX,zHj,hbb,RE,Hh];refine I8 _ _ _ (aw.auto) ?_ ?_
     . intro _;simp[U]
     . intro h;cases h
   | false =>
     simp[U,bL,Ny,qX,zHj,hbb,RE,Hh]
 . obtain⟨fi,fk,yv⟩:=hfn rfl;obtain rfl:q0=true:=by rw[<- K1];rfl
   rw[gH];simp[U,bL,ud,BL,yv,RE,Hh];refine I8 _ _ _ (aw.auto) ?_ ?_
   . rintro rfl;simp[U]
   . rintro rfl;simp[U]
 . obtain rfl:q0=true:=by rw[<- K1];rfl
   rw[gH];simp[U,bL,RE,Hh];refine I8 _ _ _ (aw.auto) ?_ ?_
   . rintro rfl;simp[U]
   . rintro rfl;simp[U]
 . obtain rfl:q0=true:=by rw[<- K1];rfl
   rw[gH];simp[U,bL,RE,Hh];refine I8 _ _ _ (aw.auto) ?_ ?_
   . rintro rfl;simp[U]
   . rintro rfl;simp[U]
 . have la:=zMh rfl;simp[bL]at la;obtain rfl:q0=true:=by rw[<- K1];rfl
   rw[gH];simp[U,bL,hAn,la,RE,Hh];refine I8 _ _ _ (aw.auto) ?_ ?_
   . rintro rfl;simp[U]
   . rintro rfl;simp[U]
end
def Ql:∀ d,Valid I Pg 59 (dH (EH d))
 | 0=>Valid.dH (fo Tryz.func59 Cq.2) λvs v h C=>by
   obtain⟨D,cJ,e,rfl,M,O,h3,h4,rfl⟩:=Tm h;have:=Xp.nE e;omega
 | d + 1=>Valid.dH (fo Tryz.func59 Cq.2) λvs v h C=>by
   obtain⟨D,cJ,e,rfl,M,O,h3,h4,rfl⟩:=Tm h
   exact zwn hρ (E:=EL [(120,qX),(87,BL),(121,dH Ty),(114,dH (cO RM)),(124,dH (dC Vi)),(123,dH (dC zar)),(59,dH (EH d))]) rfl
    (ag (ae (Yf hρ) (ae (zgi hρ) (ae (zvH hρ) (ae (Wy hρ) (ae (zlE hρ) (ae (zBI hρ) (ae (Ql d) aG)))))))) rfl rfl rfl rfl rfl rfl rfl M O h3 h4 C
end
@[simp] def zLU :(V.int k 2).nat?=some 2:=(rfl)
@[simp] def zLT :(V.int k 3).nat?=some 3:=(rfl)
@[simp] def zLS :(V.int k 4).nat?=some 4:=(rfl)
@[simp] def zLR :(V.int k 5).nat?=some 5:=(rfl)
@[simp] def zLQ :(V.int k 6).nat?=some 6:=(rfl)
@[simp] def zLP :(V.int k 7).nat?=some 7:=(rfl)
section
variable {I:Nat->Value}(hρ:J.Good I){E:Env}(U:E.P=Pg)(aq:bH I E)
include hρ U aq
def TB{t:G}(C:HS):aT I Pg 35 [enc t] C (enc (mono t)) C:=by
 refine fn hρ U aq Tryz.func35 Od.2 rfl (by simp) ?_ C;simp[U,mono]
def TA{l:Z Entry}(hl:l.length<=1000)(C:HS):aT I Pg 101 [enc l,enc n,enc c] C (enc (l++[⟨n,c⟩])) C:=by
 refine fn hρ U aq Tryz.func101 Oc.2 rfl (by simp) ?_ C;rcases l with _|⟨x,l⟩
 . simp[U]
 . have n9:l.length+1<=1000:=hl;have k1:(l.length+1)*88<=1048576:=aO (aN 88 n9) (by decide);have k2:(l.length+1+1)*88<=1048576:=aO (aN 88 (Nat.succ_le_succ n9)) (by decide);simp[U,k1,k2,aY]
def Gp(hN:E.dE 34=H6 (Iu BI))(ht:t.ok)(C:HS)(id:Nat)(hid:id<C.n)(hg:C.H.get id=some (box (iC.cells t))) :
 aT I Pg 37 [.ptr id 0 0] C (enc (varName t)) (C.wr id (box (iC.cells (t.next 8).1))):=by
 unfold varName;have hF:BI t 8=some (t.next 8):=if_pos ⟨ht,by omega,by omega⟩;have rK:=Af t 8;have u9:=Cb t (n:=8) (by omega);rcases hq:t.next 8 with⟨t1,k⟩;simp only[hq]at hF rK u9 ⊢;obtain⟨j,rfl⟩:=bK rK;have hj:j=0\/j=1\/j=2\/j=3\/j=4\/j=5\/j=6\/j=7:=by omega
 clear rK u9 hq;rw[bP]
 rcases hj with rfl|rfl|rfl|rfl|rfl|rfl|rfl|rfl <;>
 . refine st hρ U aq Tryz.func37 Ba.2 rfl (by simp) (by simp) (by simp) (by simp) ?_ hid hg;simp[U,hN,hF,varNames];exact aH.bw
end
section
variable {I:Nat->Value}(hρ:J.Good I){E:Env}(U:E.P=Pg)(aq:bH I E)
include hρ U aq
def Rn{l:Z Entry}(hl:l.length<=10000)(C:HS):aT I Pg 23 [enc l] C (enc (l.map (·.name))) C:=by
 refine fn hρ U aq Tryz.func23 E5.2 rfl (by simp) ?_ C;simp[U]
 refine vC hρ U aq l.length (nn:=1) (λi (L:Z (Z Nat))=>[(0,.sl (l.map df) false),(3,oV 0 (L.map cF)),(4,.int .i64 (i:Int))]) (λi L=>oH 0 1 (L.map cF)) (λi L=>L=(l.take i).map (·.name)) []
  (aw.auto) rfl ?_ ?_
 . intro L hL K;rw[gN]at hL;rw[<- hL];clear hL;rcases L with _|⟨x,L⟩<;>simp[Ab,U]
   . refine bO.mk (aw.auto (TL:=[(3,.aE)]) (HL:=[]) (n:=1)) ?_;simp[U]
   . refine bO.mk (aw.auto (TL:=[(3,oV 0 ((x::L).map cF))]) (HL:=oH 0 1 ((x::L).map cF)) (n:=1)) ?_;simp[U]
 . intro i L hi hL K hK;have cj:(i:Int)<l.length:=by omega
   have cy:=bI (i:=i);have bc:=hK (L++[l[i].name]) (by rw[dK,ax hi,fP,dz,hL];rfl);have KR:L.length=i:=by rw[hL,aL,eB];omega
   clear hL;rcases L with _|⟨x,L⟩
   . simp[Ab,U,hi,cj,cy,-Int.natCast_add];exact bc _ _ (aw.auto)
   . have pA:(L.length+1+1)*16<=1048576:=aO (aN 16 (show L.length+1+1<=10001 by simp at KR;omega)) (by decide);simp[Ab,U,hi,cj,cy,pA,aY,-Int.natCast_add];exact bc _ _ (aw.auto)
theorem Rq  (hV:E.dE 71=dH (cO λl:Z G=>if G.eK l=true/\l.length<=10000/\G.bj l<=d then some (tQ l)else none)) (hH:E.dE 72=KU (dC λ(l:Z Int) (x:Int)=>if l.length<=1000000 then some (decide (x∈l))else none))
 (hB:E.dE 31=dH (cO λi=>some (qU i))) (hR:E.dE 48=dH (dC (M0 d))) {t:G} {ids:Z Int} (ht:t.ok=true) (hd:t.size<=d) (lj:d<=10000) (zN1:ids.length<=10000) (C:HS):aT I Pg 36 [enc t,enc ids] C (enc (yC t ids)) C:=by
 refine fn hρ U aq Tryz.func36 E8.2 rfl (by simp) ?_ C;have ho:G.eK [t]=true:=by simp[G.eK,ht]
 have b8:G.bj [t]<=d:=by simpa [G.bj]using hd
 have lP:(tQ [t]).length<=10000:=by
  grind [Xf,eO,qM,tQ,List.length_nil]
 have zob:ids.length<=1000000:=by omega
 simp[U,hV,ho,b8];unfold yC;generalize tQ [t]=vs at lP
 refine vC hρ U aq vs.length (nn:=3) (λi (L:Z cT)=>[(1,.sl (ids.map cW) false),(2,.ptr 0 0 0),(4,.ptr 1 0 0),(5,.sl (vs.map cW) false),(6,oV 2 (L.map lV)),(7,.int .i64 (i:Int))])
  (λi L=>[(0,box (au t)),(1,box [.int .i64 0,.int .i64 0,.str [],.int .i64 0,.int .i64 0,.aE])]++oH 2 6 (L.map lV)) (λi L=>L=vU (vs.take i) ids []) []
  (aw.auto) (by simp[vU]) ?_ ?_
 . intro L hL K;rw[gN]at hL;have KR:=(Va vs ids []).2;rw[<- hL]at KR ⊢;clear hL;have iv:M0 d t L=some (t.xV L):=by unfold M0;rw[if_pos ⟨ht,hd,by simp at KR;omega⟩]
   rcases L with _|⟨x,L⟩<;>simp[u6,U]
   . refine bO.mk (aw.auto (TL:=[(2,.ptr 0 0 0),(4,.ptr 1 0 0),(6,.aE)]) (HL:=[(0,box (au t)),(1,box [.int .i64 0,.int .i64 0,.str [],.int .i64 0,.int .i64 0,.aE])]) (n:=3)) ?_
     simp_all
   . refine bO.mk (aw.auto (TL:=[(2,.ptr 0 0 0),(4,.ptr 1 0 0),(6,oV 2 ((x::L).map lV))]) (HL:=[(0,box (au t)),(1,box [.int .i64 0,.int .i64 0,.str [],.int .i64 0,.int .i64 0,.aE])]++oH 2 6 ((x::L).map lV)) (n:=3)) ?_
     simp_all
 . intro i L hi hL K hK;have cj:(i:Int)<vs.length:=by omega
   have cy:=bI (i:=i);have bc:=hK (if vs[i]∈ids then L++[⟨vs[i],qU L.length⟩]else L) (by rw[dK,ax hi,fP,zfq,<- hL];simp[vU])
   have KR:L.length<=i:=by
    grind [Va,List.length_take,List.length_nil]
   clear hL;by_cases hv:vs[i]∈ids
   . rw[if_pos hv]at bc;rcases L with _|⟨x,L⟩
     . simp[u6,U,hi,cj,cy,hH,zob,hv,hB,-Int.natCast_add];exact bc _ _ (aw.auto)
     . have pA:(L.length+1+1)*72<=1048576:=aO (aN 72 (show L.length+1+1<=10001 by simp at KR;omega)) (by decide);simp[u6,U,hi,cj,cy,hH,zob,hv,hB,pA,aY,-Int.natCast_add];exact bc _ _ (aw.auto)
   . rw[if_neg hv]at bc;rcases L with _|⟨x,L⟩<;>simp[u6,U,hi,cj,cy,hH,zob,hv,-Int.natCast_add]<;>exact bc _ _ (aw.auto)
end
def zrY(f:α->Z V):Z α->V
 | []=>.aE
 |x::l=>.sl ((x::l).map f) false
@[simp] def zC9  {f:α->Z V}:zrY f []=.aE:=(rfl)
@[simp] def zzO  {f:α->Z V} {x:α} {l:Z α}:zrY f (x::l)=.sl ((x::l).map f) false:=(rfl)
section
variable {I:Nat->Value}(hρ:J.Good I){E:Env}(U:E.P=Pg)(aq:bH I E)
include hρ U aq
open Classical in
theorem Hy (hN:E.dE 34=H6 (Iu BI)) (hT:E.dE 12=H6 (Ir (MF 2))) (zHd:E.dE 37=H6 (zmA λt:Tp=>if t.ok then some ((t.next 8).1,varName t)else none))
 (zMi:E.dE 13=NX 5 (λvs=>W (cO (λn:Int=>if 0<=n/\n<=10000 then some (rA n.toNat)else none) vs) λv=>match v with|.sl es _=>some es|_=>none))
 (zOc:E.dE 16=dH (dC λh i=>some (fD h i))) (zMk:E.dE 35=dH (cO λt=>some (mono t))) (zHi:E.dE 101=dH (tZ λ(l:Z Entry) (n:Z Nat) (c:Scheme)=>if l.length<=1000 then some (l++[⟨n,c⟩])else none))
 (zHo:E.dE 36=dH (dC λ(t:G) (ids:Z Int)=>if t.ok=true/\t.size<=1000/\ids.length<=10000 then some (yC t ids)else none))
   (ht:t.ok) (hD:PC D) (hTy:∀ (t:Tp) (Lv:Z G),(∀ l∈Lv,l.ok=true/\l.size<=1)->(jb 2 t D Lv).2.ok=true/\(jb 2 t D Lv).2.size<=1000) (C:HS) (id:Nat) (hid:id<C.n) (hg:C.H.get id=some (box (iC.cells t))) :
 aT I Pg 55 [.ptr id 0 0,enc D] C (enc (lK t D).2) (C.wr id (box (iC.cells (lK t D).1))):=by
 have zMo:∀ t':Tp,t'.ok->BI t' 4=some (t'.next 4):=λt' h=>if_pos ⟨h,by omega,by omega⟩
 have oE:=iw ht 4;have rK:=Af t 4;have u9:=Cb t (n:=4) (by omega);have hF:=zMo t ht;generalize hR:lK t D=R;unfold lK at hR;rcases hq:t.next 4 with⟨t1,k⟩;simp only[hq]at hF rK u9 oE hR;obtain⟨m,rfl⟩:=bK rK;rw[bP]at hR
 have zKg:∀ (t':Tp) (Lv:Z G),t'.ok->Lv.length<=100000->MF 2 t' D Lv 2=some (jb 2 t' D Lv):=λt' Lv h hl=>by
  unfold MF
  grind
 have hlv:lg=[fD 0 0,fD 3 1]:=rfl;have lz:rA 2=[fq 0,fq 1]:=rfl;have hce:=ZL (D:=D) oE m;refine st hρ U aq Tryz.func55 vY.2 rfl (by simp) (by simp) (by simp) ?_ ?_ hid hg
 . subst hR;simp
 simp[U,hN,hF,zOc]
 refine vC hρ U aq m (nn:=3) (λi (p:Tp×Z Entry)=>[(0,.ptr 0 0 0),(1,.sl (D.map aP) false),(5,.ptr 1 0 0),(6,.sl [au (fD 0 0),au (fD 3 1)] true),(7,zrY df p.2),(8,.int .i64 (m:Int)),(9,.int .i64 (i:Int))])
  (λi p=>[(0,box (iC.cells p.1)),(1,box [.int .i64 0,.str [],.int .i64 0,.int .i64 0,.aE])]) (λi p=>p=GD D t1 i) (t1,[])
  (aw.auto) rfl ?_ ?_
 . intro p hp K;rw[<- hp]at hR hce;have n8:=zKg p.1 [fD 0 0,fD 3 1] hce.1 (by simp);obtain⟨t2,L⟩:=p;simp only[hlv]at hR n8;rcases lR:jb 2 t2 D [fD 0 0,fD 3 1]with⟨t3,g⟩;simp only[lR]at hR n8;subst hR;rcases L with _|⟨x,L⟩<;>simp[kU,U]
   . refine bO.mk (aw.auto (TL:=[(0,.ptr 0 0 0),(1,.sl (D.map aP) false),(5,.ptr 1 0 0),(6,.sl [au (fD 0 0),au (fD 3 1)] true),(7,.aE)]) (HL:=[(0,box (iC.cells t2)),(1,box [.int .i64 0,.str [],.int .i64 0,.int .i64 0,.aE])]) (n:=3)) ?_;simp[U,hT,n8];exact aH.bw
   . refine bO.mk (aw.auto (TL:=[(0,.ptr 0 0 0),(1,.sl (D.map aP) false),(5,.ptr 1 0 0),(6,.sl [au (fD 0 0),au (fD 3 1)] true),(7,zrY df (x::L))]) (HL:=[(0,box (iC.cells t2)),(1,box [.int .i64 0,.str [],.int .i64 0,.int .i64 0,.aE])]) (n:=3)) ?_
     simp_all [aH.bw]
 . intro i p hi hp K hK;have hpe:=ZL (D:=D) oE i;rw[<- hp]at hpe;have cj:(i:Int)<m:=by omega
   have cy:=bI (i:=i);have bc:=hK (J7 D p) (by rw[hp];rfl);have KR:p.2.length<=1000:=by omega
   have zG7:=iw hpe.1 8;have zop:=hpe.1;obtain⟨t2,L⟩:=p;simp only at KR zG7 zop;have zAd:=zMo _ zG7;unfold J7 at bc;generalize zG6:varName t2=vn at bc;rcases hq8:t2.next 8 with⟨t3,k8⟩;simp only[hq8]at zAd bc zG7;have zJH:=iw zG7 4;rcases zNR:t3.next 4 with⟨t4,k9⟩;simp only[zNR]at zAd bc zJH;by_cases zEd:k9=0
   . rw[if_pos zEd]at bc;have Ix:=zKg t4 (rA 2) zJH (by simp);have zHf:=hTy t4 (rA 2) (by rw[lz];simp[fq,G.ok,G.eK,G.size,G.bj]);rw[lz]at Ix zHf bc;rcases zJO:jb 2 t4 D [fq 0,fq 1]with⟨t5,g⟩;simp only[zJO]at Ix zHf bc;subst zEd;rcases L with _|⟨x,L⟩
     . simp[kU,U,cj,zHd,zop,zG6,hq8,hN,zAd,zMi,lz,hT,Ix,zHo,zHf,zHi,cy,-Int.natCast_add];exact bc _ _ (aw.auto)
     . have zEb:L.length<=999:=by simpa using KR
       simp[kU,U,cj,zHd,zop,zG6,hq8,hN,zAd,zMi,lz,hT,Ix,zHo,zHf,zHi,zEb,cy,-Int.natCast_add];exact bc _ _ (aw.auto)
   . rw[if_neg zEd]at bc;have Ix:=zKg t4 lg zJH (by simp[hlv]);rw[hlv]at Ix bc;rcases zJO:jb 2 t4 D [fD 0 0,fD 3 1]with⟨t5,g⟩;simp only[zJO]at Ix bc;rcases L with _|⟨x,L⟩
     . simp[kU,U,cj,zHd,zop,zG6,hq8,hN,zAd,zEd,hT,Ix,zMk,zHi,cy,-Int.natCast_add];exact bc _ _ (aw.auto)
     . have zEb:L.length<=999:=by simpa using KR
       simp[kU,U,cj,zHd,zop,zG6,hq8,hN,zAd,zEd,hT,Ix,zMk,zHi,zEb,cy,-Int.natCast_add];exact bc _ _ (aw.auto)
end
section
variable {I:Nat->Value}(hρ:J.Good I)
include hρ
def zBR:Valid I Pg 35 (dH (cO λt:G=>some (mono t))):=v1 (fo Tryz.func35 Od.2) λa r h C=>by
 cases h;exact TB hρ (E:=EL []) rfl (ag aG) C
def zut:J.Spec:=dH (tZ λ(l:Z Entry) (n:Z Nat) (c:Scheme)=>if l.length<=1000 then some (l++[⟨n,c⟩])else none)
def zBN:Valid I Pg 101 zut:=v3 (fo Tryz.func101 Oc.2) λa b c r h C=>by
 obtain⟨M,rfl⟩:=bF h;exact TA hρ (E:=EL []) rfl (ag aG) M C
open Classical in
def Wv:J.Spec:=H6 (zmA λt:Tp=>if t.ok then some ((t.next 8).1,varName t)else none)
def zh7:Valid I Pg 37 Wv:=Valid.st (fo Tryz.func37 Ba.2) λs vs r _ hv C id hid hg=>by
 obtain⟨q,rfl,h,rfl⟩:=zmz hv;obtain⟨M,rfl⟩:=bF h;exact Gp hρ (E:=EL [(34,H6 (Iu BI))]) rfl (ag (ae (zau hρ) aG)) rfl M C id hid hg
def zvK:Valid I Pg 23 (dH (cO λl:Z Entry=>if l.length<=10000 then some (l.map (·.name))else none)):=v1 (fo Tryz.func23 E5.2) λa r h C=>by
 obtain⟨M,rfl⟩:=bF h;exact Rn hρ (E:=EL []) rfl (ag aG) M C
def vU:J.Spec:=dH (dC λ(t:G) (ids:Z Int)=>if t.ok=true/\t.size<=1000/\ids.length<=10000 then some (yC t ids)else none)
def zvP:Valid I Pg 36 vU:=v2 (fo Tryz.func36 E8.2) λa b r h C=>by
 obtain⟨⟨M,O,h3⟩,rfl⟩:=bF h
 exact Rq hρ (E:=EL [(71,zlw 1000),(72,Gv),(31,dH (cO λi:Int=>some (qU i))),(48,dH (dC (M0 1000)))]) rfl
  (ag (ae (zBJ hρ 1000 (by omega)) (ae (zBU hρ) (ae (zvR hρ) (ae (zlJ hρ 1000) aG))))) rfl rfl rfl rfl M O (by omega) h3 C
open Classical in
def zs2(t:Tp)(D:Z Decl):Y (Tp×Z Entry×G):=if t.ok/\PC D/\(∀ (t:Tp) (Lv:Z G),(∀ l∈Lv,l.ok=true/\l.size<=1)->(jb 2 t D Lv).2.ok=true/\(jb 2 t D Lv).2.size<=1000)then some (lK t D)else none
def zlN:Valid I Pg 55 (H6 (Iu zs2)):=s1 (fo Tryz.func55 vY.2) λs a q h C id hid hg=>by
 obtain⟨⟨M,O,h3⟩,rfl⟩:=bF h
 exact Hy hρ (E:=EL [(34,H6 (Iu BI)),(12,H6 (Ir (MF 2))),(37,Wv),(13,zgY),(16,dH (dC λh i:Int=>some (fD h i))),(35,dH (cO λt:G=>some (mono t))),(101,zut),(36,vU)]) rfl
  (ag (ae (zau hρ) (ae (zBK hρ 2 (by omega)) (ae (zh7 hρ) (ae (zqN hρ) (ae (zlH hρ) (ae (zBR hρ) (ae (zBN hρ) (ae (zvP hρ) aG))))))))) rfl rfl rfl rfl rfl rfl rfl rfl M O h3 C id hid hg
end
def AK{l:Z V}(h:l.length=11):∃ x0 x1 x2 x3 x4 x5 x6 x7 x8 x9 zyS,l=[x0,x1,x2,x3,x4,x5,x6,x7,x8,x9,zyS]:=by
 match l,h with
 | [x0,x1,x2,x3,x4,x5,x6,x7,x8,x9,zyS],_=>exact⟨_,_,_,_,_,_,_,_,_,_,_,rfl⟩
def zk1(c:Z V)(e:Xp):Prop:=c.length=11/\(∀ v∈c,v.bM=true)/\fI c=dL e
open Classical in
def xP(d:Nat)(t:Tp)(D:Z Decl)(N:Z (Z Nat))(n:Int):Y (Tp×Xp) :=
 if t.ok/\MT D/\N.length+200*n.toNat<=10000/\0<=n/\n<=d then some (gJ n.toNat t D N)else none
def fH:Z V:=[.int .i64 0,.int .i64 0,.str [],.int .i64 0,.aE,.aE,.int .i64 0,.str [],.int .i64 0,.int .i64 0,.aE]
section
variable {I:Nat->Value}(hρ:J.Good I)
include hρ
section
variable {E:Env}(U:E.P=Pg)(aq:bH I E)
include U aq
def ziq(hT:E.dE 22=H6 (Ir (xP d))){c:Z V}(ht:t.ok)(hD:MT D)(hN:N.length+200*d<=10000)(hc:zk1 c e)(hm:m<=2)
 
 (h0:aw 1 T C (dW [(0,.ptr 0 0 0),(1,.sl (D.map aP) false),(2,.sl (N.map cF) false),(3,.int .i64 ((d+1:Nat):Int)),(8,.ptr 1 0 0),(15,.ptr 2 0 0),(17,.int .i64 (m:Int))])
   { H:=dW [(0,box (iC.cells t)),(1,.arr 11 0 [fH] true false false),(2,.arr 11 0 [c] true false false)],n:=3,log:=[] })
 (hQ:∀ c',zk1 c' (mQ d t D N e m).2->Q (.exit 5) (dW [(8,.ptr 1 0 0),(15,.ptr 2 0 0)]) { H:=dW [(0,box (iC.cells (mQ d t D N e m).1)),(1,.arr 11 0 [fH] true false false),(2,.arr 11 0 [c'] true false false)],n:=3,log:=[] }) :
 Ls I E 1 177 (.loop rO) T C Q:=by
 have hE:(m:Int)=(m:Int)-(0:Nat):=by omega
 rw[hE]at h0
 refine vC hρ U aq m (nn:=3) (λi (S:Tp×Z V)=>[(0,.ptr 0 0 0),(1,.sl (D.map aP) false),(2,.sl (N.map cF) false),(3,.int .i64 ((d+1:Nat):Int)),(8,.ptr 1 0 0),(15,.ptr 2 0 0),(17,.int .i64 ((m:Int)-(i:Int)))])
  (λi S=>[(0,box (iC.cells S.1)),(1,.arr 11 0 [fH] true false false),(2,.arr 11 0 [S.2] true false false)]) (λi S=>S.1=(mQ d t D N e i).1/\zk1 S.2 (mQ d t D N e i).2) (t,c) h0 ⟨by rw[mQ],by rw[mQ];exact hc⟩ ?_ ?_
 . rintro ⟨u,c'⟩ ⟨M,O⟩ K;simp only at M O;have:=hQ c' O;rw[<- M]at this;obtain⟨hl,hp,hn⟩:=O;obtain⟨x0,x1,x2,x3,x4,x5,x6,x7,x8,x9,zyS,rfl⟩:=AK hl;simp at hp;obtain⟨p0,p1,p2,p3,p4,p5,p6,p7,p8,p9,L5⟩:=hp;simp[rO,U];exact bO.mk (aw.auto (hH:=by simp[fH,V.zL,V.jP,p0,p1,p2,p3,p4,p5,p6,p7,p8,p9,L5])) this
 . rintro i ⟨u,c'⟩ hi ⟨M,O⟩ K hK;simp only at M O;have cj:(i:Int)<m:=by omega
   have cy:IntKind.i64.wrap ((m:Int)-(i:Int)-1)=(m:Int)-((i+1:Nat):Int):=by rw[wrap_i64 (by omega) (by omega)];omega
   have Kp:IntKind.i64.wrap (((d+1:Nat):Int)-1)=(d:Int):=by rw[wrap_i64 (by omega) (by omega)];omega
   have hu:u.ok:=by rw[M];exact zc2 (λt N h=>SV d t N h) ht N e i
   have hF:xP d u D N (d:Int)=some (gJ d u D N):=by
    unfold xP;rw[if_pos ⟨hu,hD,by omega,by omega,by omega⟩];rfl
   obtain⟨hl,hp,hn⟩:=O;have B2:mQ d t D N e (i+1)=((gJ d u D N).1,VO (mQ d t D N e i).2 (gJ d u D N).2):=by rw[M,mQ]
   generalize (mQ d t D N e i).2=e1 at hn B2;rcases hq:gJ d u D N with⟨u2,y⟩;rw[hq]at hF B2;obtain⟨x0,x1,x2,x3,x4,x5,x6,x7,x8,x9,zyS,rfl⟩:=AK hl;simp at hp;obtain⟨p0,p1,p2,p3,p4,p5,p6,p7,p8,p9,L5⟩:=hp
   have bc:=hK (u2,[.int .i64 5,.int .i64 0,.str [],.int .i64 0,.sl [[x0,x1,x2,x3,x4,x5,x6,x7,x8,x9,zyS],dL y] true,.aE,.int .i64 0,.str [],.int .i64 0,.int .i64 0,.aE]) (by
    rw[B2];refine⟨rfl,rfl,by simp,?_⟩;simp[VO,bL (.mk 5 _ _ _ _ _ _),tT]
    simpa [bL e1]using hn)
   simp[rO,U,cj,Kp,hT,hF,p0,p1,p2,p3,p4,p5,p6,p7,p8,p9,L5,cy,-Int.natCast_add];exact bc _ _ (aw.auto (hH:=by simp[fH]))
end
end
def MW{e:Z V}(h:(e.all V.bM)=true):e.map (V.jl π)=e:=by
 have:=uz (π:=π) (es:=[e]) (by simpa using h);simpa using this
section
variable {I:Nat->Value}(hρ:J.Good I)
include hρ
section
variable {E:Env}(U:E.P=Pg)(aq:bH I E)
include U aq
def zin{k:Z V}{A:Z (Z V)}{dE:Z Nat}(hi:i<dd.ctors.length)(hA:(A.all λr=>r.all V.bM)=true)(OK:dd.ctors[i].fields.length<=100)
 
 (h0:aw 1 T C (dW [(0,.ptr 0 0 0),(1,.sl (D.map aP) false),(2,.sl (N.map cF) false),(3,.int .i64 ((d+1:Nat):Int)),(8,.ptr 1 0 0),(10,.ptr 2 0 0),(11,.ptr 3 0 0),(12,.int .i64 (i:Int)),(13,.ptr 5 0 0),(14,.int .i64 ((0:Nat):Int))])
   { H:=dW ([(0,box (iC.cells t)),(1,.arr 11 0 [fH] true false false),(2,box (aP dd)),(3,.arr 11 0 [[.int .i64 8,.int .i64 0,.str [],.int .i64 0,.sl [k] true,oV 4 A,.int .i64 0,.str [],.int .i64 0,.int .i64 0,.aE]] true false false),(5,.arr 14 0 [[.int .i64 0,.str dE,.aE,.int .i64 0,.int .i64 0,.str [],.int .i64 0,.aE,.aE,.int .i64 0,.str [],.int .i64 0,.int .i64 0,.aE]] true false false)]++oH 4 14 A),n:=7,log:=[] })
 (hQ:Q (.exit 3) (dW [(0,.ptr 0 0 0),(1,.sl (D.map aP) false),(2,.sl (N.map cF) false),(3,.int .i64 ((d+1:Nat):Int)),(8,.ptr 1 0 0),(10,.ptr 2 0 0),(11,.ptr 3 0 0),(12,.int .i64 (i:Int)),(13,.ptr 5 0 0)])
   { H:=dW ([(0,box (iC.cells t)),(1,.arr 11 0 [fH] true false false),(2,box (aP dd)),(3,.arr 11 0 [[.int .i64 8,.int .i64 0,.str [],.int .i64 0,.sl [k] true,oV 4 A,.int .i64 0,.str [],.int .i64 0,.int .i64 0,.aE]] true false false),(5,.arr 14 0 [[.int .i64 0,.str dE,oV 6 ((kE dd.ctors[i].fields.length).map cF),.int .i64 0,.int .i64 0,.str [],.int .i64 0,.aE,.aE,.int .i64 0,.str [],.int .i64 0,.int .i64 0,.aE]] true false false)]++oH 4 14 A++oH 6 1 ((kE dd.ctors[i].fields.length).map cF)),n:=7,log:=[] }) :
 Ls I E 1 177 (.loop wT) T C Q:=by
 have GF:i*3 / 3=i:=by omega
 refine vC hρ U aq dd.ctors[i].fields.length (nn:=7) (λj (h2:Z (Z Nat))=>[(0,.ptr 0 0 0),(1,.sl (D.map aP) false),(2,.sl (N.map cF) false),(3,.int .i64 ((d+1:Nat):Int)),(8,.ptr 1 0 0),(10,.ptr 2 0 0),(11,.ptr 3 0 0),(12,.int .i64 (i:Int)),(13,.ptr 5 0 0),(14,.int .i64 (j:Int))])
  (λj h2=>[(0,box (iC.cells t)),(1,.arr 11 0 [fH] true false false),(2,box (aP dd)),(3,.arr 11 0 [[.int .i64 8,.int .i64 0,.str [],.int .i64 0,.sl [k] true,oV 4 A,.int .i64 0,.str [],.int .i64 0,.int .i64 0,.aE]] true false false),(5,.arr 14 0 [[.int .i64 0,.str dE,oV 6 (h2.map cF),.int .i64 0,.int .i64 0,.str [],.int .i64 0,.aE,.aE,.int .i64 0,.str [],.int .i64 0,.int .i64 0,.aE]] true false false)]++oH 4 14 A++oH 6 1 (h2.map cF)) (λj h2=>h2=kE j) [] (by simpa using h0) rfl ?_ ?_
 . intro h2 hW K;subst hW;have hq:=hQ;generalize hf:dd.ctors[i].fields.length=nf at hq OK ⊢;generalize kE nf=h2 at hq ⊢;have m8:∀ a B,A=a::B->(a.all V.bM)=true/\(B.all λr=>r.all V.bM)=true:=by rintro a B rfl;simpa using hA
   rcases A with _|⟨a,A⟩<;>rcases h2 with _|⟨w,h2⟩<;>simp[wT,U,hi,GF,hf,iD]
   all_goals exact bO.mk (aw.auto (by simp[fH]) (by first|(simp[fH,aP];done)|simp[fH,aP,MW (m8 _ _ rfl).1,uz (m8 _ _ rfl).2,(m8 _ _ rfl).1,(m8 _ _ rfl).2]) (by simp[fH])) hq
 . intro j h2 hj hW K hK;have js:(j:Int)<dd.ctors[i].fields.length:=by omega
   have cy:=bI (i:=j);have bc:=hK (h2++[Sj j]) (by rw[hW,ZR]);have zN9:h2.length=j:=by rw[hW,AX]
   clear hW h0 hQ hK;have m8:∀ a B,A=a::B->(a.all V.bM)=true/\(B.all λr=>r.all V.bM)=true:=by rintro a B rfl;simpa using hA
   have rp:(j:Int).tmod 4=((j % 4:Nat):Int):=by rw[Int.ofNat_tmod];rfl
   generalize hf:dd.ctors[i].fields=fs at hj js OK;have k1:∀ w B,h2=w::B->(B.length+1+1)*16<=1048576:=by rintro w B rfl;simp at zN9;omega
   unfold Sj at bc;have h4:j % 4=0\/j % 4=1\/j % 4=2\/j % 4=3:=by omega
   rcases h4 with h4|h4|h4|h4<;>rw[h4]at rp bc<;>rcases A with _|⟨a,A⟩<;>rcases h2 with _|⟨w,h2⟩
   all_goals first
    |simp[wT,U,hi,GF,hf,iD,js,rp,cy,k1 _ _ rfl,aY,-Int.natCast_add]
    |simp[wT,U,hi,GF,hf,iD,js,rp,cy,-Int.natCast_add]
   all_goals exact bc _ _ (aw.auto (by simp[fH,-Int.natCast_add]) (by first|(simp[fH,aP];done)|simp[fH,aP,MW (m8 _ _ rfl).1,uz (m8 _ _ rfl).2,(m8 _ _ rfl).1,(m8 _ _ rfl).2]) (by simp[fH]))
end
end
def SR:Z (Z Nat)->V
 | []=>.aE
 |v::l=>.sl ((v::l).map cF) false
def zej(l:Z α)(n:Nat):kI l n []=l:=by
 apply oK;intro i;by_cases h:i<l.length
 . rw[Fw _ _ _ _ h,if_neg (by simp)]
 . rw[zjh _ _ _ _ (by omega),jR (by omega)]
section
variable {I:Nat->Value}(hρ:J.Good I)
include hρ
section
variable {E:Env}(U:E.P=Pg)(aq:bH I E)
include U aq
def zio(hT:E.dE 22=H6 (Ir (xP d))){k:Z V}(ht:t.ok)(hD:MT D)(hN:N.length+200*(d+1)<=10000)(AI:N≠[])(B1:dd.ctors.length<=100)(ya:∀ c∈dd.ctors,c.fields.length<=100)
 
 (h0:aw 1 T C (dW [(0,.ptr 0 0 0),(1,.sl (D.map aP) false),(2,.sl (N.map cF) false),(3,.int .i64 ((d+1:Nat):Int)),(8,.ptr 1 0 0),(10,.ptr 2 0 0),(11,.ptr 3 0 0),(12,.int .i64 ((0:Nat):Int))]) { H:=dW ([(0,box (iC.cells t)),(1,.arr 11 0 [fH] true false false),(2,box (aP dd)),(3,.arr 11 0 [[.int .i64 8,.int .i64 0,.str [],.int .i64 0,.sl [k] true,oV 4 [],.int .i64 0,.str [],.int .i64 0,.int .i64 0,.aE]] true false false)]++oH 4 14 []),n:=5,log:=[] })
 (hQ:∀ A,(A.all λr=>r.all V.bM)=true->gT A=((kz d t D N dd.ctors dd.ctors.length).2.map gL)->Q (.exit 1) (dW [(8,.ptr 1 0 0),(11,.ptr 3 0 0)]) { H:=dW ([(0,box (iC.cells (kz d t D N dd.ctors dd.ctors.length).1)),(1,.arr 11 0 [fH] true false false),(3,.arr 11 0 [[.int .i64 8,.int .i64 0,.str [],.int .i64 0,.sl [k] true,oV 4 A,.int .i64 0,.str [],.int .i64 0,.int .i64 0,.aE]] true false false)]++oH 4 14 A),n:=5,log:=[] }) :
 Ls I E 1 177 (.loop nk) T C Q:=by
 refine vC hρ U aq dd.ctors.length (nn:=5) (λi (S:Tp×Z (Z V))=>[(0,.ptr 0 0 0),(1,.sl (D.map aP) false),(2,.sl (N.map cF) false),(3,.int .i64 ((d+1:Nat):Int)),(8,.ptr 1 0 0),(10,.ptr 2 0 0),(11,.ptr 3 0 0),(12,.int .i64 (i:Int))])
  (λi S=>[(0,box (iC.cells S.1)),(1,.arr 11 0 [fH] true false false),(2,box (aP dd)),(3,.arr 11 0 [[.int .i64 8,.int .i64 0,.str [],.int .i64 0,.sl [k] true,oV 4 S.2,.int .i64 0,.str [],.int .i64 0,.int .i64 0,.aE]] true false false)]++oH 4 14 S.2) (λi S=>S.1=(kz d t D N dd.ctors i).1/\(S.2.all λr=>r.all V.bM)=true/\gT S.2=((kz d t D N dd.ctors i).2.map gL)) (t,[]) (by simpa using h0) ⟨by rw[kz],rfl,by rw[kz];rfl⟩ ?_ ?_
 . rintro ⟨u,A⟩ ⟨M,O,h3⟩ K;simp only at M O h3;have hq:=hQ A O h3;rw[<- M]at hq;have m8:∀ a B,A=a::B->(a.all V.bM)=true/\(B.all λr=>r.all V.bM)=true:=by rintro a B rfl;simpa using O
   rcases A with _|⟨a,A⟩<;>simp[nk,U]
   all_goals exact bO.mk (aw.auto (by simp[fH]) (by first|(simp[fH,aP];done)|simp[fH,aP,MW (m8 _ _ rfl).1,uz (m8 _ _ rfl).2,(m8 _ _ rfl).1,(m8 _ _ rfl).2]) (by simp[fH])) hq
 . rintro i ⟨u,A⟩ hi ⟨M,O,h3⟩ K hK;simp only at M O h3;have cj:(i:Int)<dd.ctors.length:=by omega
   have cy:=bI (i:=i);have Kp:IntKind.i64.wrap (((d+1:Nat):Int)-1)=(d:Int):=by rw[wrap_i64 (by omega) (by omega)];omega
   have GF:i*3 / 3=i:=by omega
   have OK:=ya _ (az hi);have hu:u.ok:=by rw[M];exact(Vq (λt N h=>SV d t N h) ht N _ i).1
   have hF:xP d u D (N++kE dd.ctors[i].fields.length) (d:Int)=some (gJ d u D (N++kE dd.ctors[i].fields.length)):=by
    unfold xP;rw[if_pos ⟨hu,hD,by simp;omega,by omega,by omega⟩];rfl
   have B2:kz d t D N dd.ctors (i+1)=((gJ d u D (N++kE dd.ctors[i].fields.length)).1,(kz d t D N dd.ctors i).2++[.mk 0 dd.ctors[i].name (kE dd.ctors[i].fields.length) (gJ d u D (N++kE dd.ctors[i].fields.length)).2]):=by
    rw[M,kz,ax hi];rfl
   have hlA:A.length<=100:=by
    have e1:=congrArg List.length h3;rw[aL,(Vq (λt N h=>SV d t N h) ht N _ i).2,Cv,aL]at e1;omega
   generalize (kz d t D N dd.ctors i).2=B at h3 B2;rcases hq:gJ d u D (N++kE dd.ctors[i].fields.length)with⟨u2,y⟩;rw[hq]at hF B2;have m8:∀ a B,A=a::B->(a.all V.bM)=true/\(B.all λr=>r.all V.bM)=true:=by rintro a B rfl;simpa using O
   obtain⟨n0,N',rfl⟩:=dh AI;generalize fv:kE dd.ctors[i].fields.length=vs at hF B2;have lP:vs.length<=100:=by rw[<- fv,AX];exact OK
   have g1:(N'.length+1)*16<=1048576:=by simp at hN;omega
   have k1:∀ a B,A=a::B->(B.length+1+1)*200<=1048576:=by rintro a B rfl;simp at hlA;omega
   have bc:=hK (u2,A++[.int .i64 0::.str dd.ctors[i].name::SR vs::dL y]) (by
    refine⟨by rw[B2],?_,?_⟩
    . rw[List.all_append,O];cases vs<;>simp[bL,SR]
    . rw[B2,dz,<- h3,Cv,Cv,dz];cases vs<;>simp[SR,jO,bL y])
   have zHm:vs=[]->xP d u D (n0::N') (d:Int)=some (u2,y):=by rintro rfl;simpa using hF
   have m7:∀ v B,vs=v::B->xP d u D (n0::(N'++v::B)) (d:Int)=some (u2,y):=by rintro v B rfl;simpa using hF
   have g2:∀ v B,vs=v::B->(N'.length+1+(B.length+1))*16<=1048576/\¬ N'.length+1+(B.length+1)<=N'.length+1:=by rintro v B rfl;simp at hN lP;omega
   have e1:eT (gT (List.take N'.length (kI (N'.map cF) N'.length [])))=some N':=by rw[zej,aZ (by simp)];simp
   have e2:∀ v B,vs=v::B->eT (gT (List.take (N'.length+1+(B.length+1)) (cF n0::(N'.map cF++cF v::B.map cF))))=some (n0::(N'++v::B)):=by(rintro v B rfl;rw[aZ (by simp;omega),show cF n0::(N'.map cF++cF v::B.map cF)=(n0::(N'++v::B)).map cF by simp];simp only[zbD,zcu])
   have g3:∀ v B,vs=v::B->N'.length+1+(B.length+1)<=N'.length+(B.length+1)+1:=by intros;omega
   clear h0 hQ hK B2 hF h3;rcases A with _|⟨a,A⟩
   all_goals simp[nk,U,hi,cj,GF,iD,-Int.natCast_add]
   all_goals refine zin hρ U aq (d:=d) (t:=u) (D:=D) (N:=n0::N') (k:=k) (dE:=dd.ctors[i].name) hi O OK (aw.auto (by simp[fH,-Int.natCast_add]) (by first|(simp[fH,aP];done)|simp[fH,aP,MW (m8 _ _ rfl).1,uz (m8 _ _ rfl).2,(m8 _ _ rfl).1,(m8 _ _ rfl).2]) (by simp[fH])) ?_
   all_goals rw[fv]
   all_goals clear fv
   all_goals rcases vs with _|⟨v,vs⟩
   all_goals first
    |simp[nk,U,hi,cj,GF,Kp,cy,hT,g1,(g2 _ _ rfl).1,(g2 _ _ rfl).2,e2 _ _ rfl,g3 _ _ rfl,m7 _ _ rfl,k1 _ _ rfl,aY,-Int.natCast_add]
    |simp[nk,U,hi,cj,GF,Kp,cy,hT,g1,e1,zHm rfl,k1 _ _ rfl,aY,-Int.natCast_add]
    |simp[nk,U,hi,cj,GF,Kp,cy,hT,g1,(g2 _ _ rfl).1,(g2 _ _ rfl).2,e2 _ _ rfl,g3 _ _ rfl,m7 _ _ rfl,-Int.natCast_add]
    |simp[nk,U,hi,cj,GF,Kp,cy,hT,g1,e1,zHm rfl,-Int.natCast_add]
   all_goals exact bc _ _ (aw.auto (by simp[fH,SR,bL,-Int.natCast_add]) (by first|(simp[fH,aP,SR,bL];done)|simp[fH,aP,SR,bL,MW (m8 _ _ rfl).1,uz (m8 _ _ rfl).2,(m8 _ _ rfl).1,(m8 _ _ rfl).2]) (by simp[fH,SR,bL]))
end
end
def IM(h:v.bM=true):v.mM=true:=by cases v<;>first|rfl|cases h
def TJ(h:v.bM=true):v.Mr A=true:=by cases v<;>first|exact h|cases h
def UQ(e:Nat)(t:Tp)(D:Z Decl)(N:Z (Z Nat))(x:Xp)(m:Nat):Tp×Xp :=
 match e with
 | 0=>(t,x)
 |d+1=>mQ d t D N x m
def Az (t:Tp) (D:Z Decl) (N:Z (Z Nat)):Tp×Bool×Z Nat :=
 let p:=if N≠[]then ((t.next N.length).1,mJ [] N (t.next N.length).2)else (t,[120])
 if D≠[]then
  (if (p.1.next 2).2=0 then
    let a:=(p.1.next 2).1.next D.length
    let dd:=mJ zt D a.2
    let b:=a.1.next dd.ctors.length
    (b.1,true,(mJ Jm dd.ctors b.2).name)
  else ((p.1.next 2).1,false,p.2))
 else (p.1,false,p.2)
def G5(b:Bool)(n:Z Nat):Xp:=if b then Q8 n else Ap n
def zO(e:Nat)(t:Tp)(D:Z Decl)(N:Z (Z Nat)):zo e t D N=UQ e ((Az t D N).1.next 3).1 D N (G5 (Az t D N).2.1 (Az t D N).2.2) ((Az t D N).1.next 3).2.toNat:=by
 rw[zo.eq_def];unfold Az UQ G5;cases e<;>by_cases hN:N=[]<;>by_cases hD:D=[]<;>simp only[hN,hD,ne_eq,not_true_eq_false,not_false_eq_true,if_true,if_false]<;>first|rfl|(split<;>rfl)
def BX{z:α}{l:Z α}(h:i<l.length):mJ z l (i:Int)=l[i]:=by
 unfold mJ;rw[bP,ax h];rfl
def zB(k:Int)(n:Z Nat):Z V:=[.int .i64 k,.int .i64 0,.str n,.int .i64 0,.aE,.aE,.int .i64 0,.str [],.int .i64 0,.int .i64 0,.aE]
def zgM(b:Bool)(n:Z Nat):zk1 (zB (if b then 2 else 1) n) (G5 b n):=by
 refine⟨rfl,by simp[zB],?_⟩;cases b<;>simp[zB,G5,Q8,Ap,bL,tT]
section
variable {I:Nat->Value}(hρ:J.Good I)
include hρ
section
variable {E:Env}(U:E.P=Pg)(aq:bH I E)
include U aq
def Fg{e:Nat}(hT:∀ d,e=d+1->E.dE 22=H6 (Ir (xP d)))(ht:t.ok)(hD:MT D)(hN:N.length+200*e<=10000)(hm:m<=2)
 
 (h0:aw 1 T C (dW [(0,.ptr 0 0 0),(1,.sl (D.map aP) false),(2,.sl (N.map cF) false),(3,.int .i64 (e:Int)),(8,.ptr 1 0 0),(15,.ptr 2 0 0),(17,.int .i64 (m:Int))])
   { H:=dW [(0,box (iC.cells t)),(1,.arr 11 0 [fH] true false false),(2,.arr 11 0 [zB (if b then 2 else 1) n] true false false)],n:=3,log:=[] })
 (hQ:∀ c',zk1 c' (UQ e t D N (G5 b n) m).2->Q (.exit 5) (dW [(8,.ptr 1 0 0),(15,.ptr 2 0 0)]) { H:=dW [(0,box (iC.cells (UQ e t D N (G5 b n) m).1)),(1,.arr 11 0 [fH] true false false),(2,.arr 11 0 [c'] true false false)],n:=3,log:=[] }) :
 Ls I E 1 177 (.loop rO) T C Q:=by
 cases e with
 |succ d=>exact ziq hρ U aq (hT d rfl) ht hD (by omega) (zgM b n) hm h0 hQ
 | zero =>
   have hq:=hQ _ (zgM b n)
   refine vC hρ U aq 0 (nn:=3) (λ_ (_:Unit)=>[(0,.ptr 0 0 0),(1,.sl (D.map aP) false),(2,.sl (N.map cF) false),(3,.int .i64 ((0:Nat):Int)),(8,.ptr 1 0 0),(15,.ptr 2 0 0),(17,.int .i64 (m:Int))])
    (λ_ _=>[(0,box (iC.cells t)),(1,.arr 11 0 [fH] true false false),(2,.arr 11 0 [zB (if b then 2 else 1) n] true false false)]) (λ_ _=>True) () h0 trivial ?_ (λi _ h=>by omega)
   intro _ _ K;by_cases hE:0<m<;>simp[rO,U,hE]
   all_goals exact bO.mk (aw.auto (by simp[fH,zB]) (by simp[fH,zB,UQ]) (by simp[fH,zB])) hq
end
end
end Go.Proofs.YtfloillkpbhhhaaGreat
