import Derived.Test.YtfloillkpbhhhaaGreatNK3
import Derived.Test.YtfloillkpbhhhaaGreatJK9
import Derived.Test.YtfloillkpbhhhaaGreatJK8
import Derived.Test.YtfloillkpbhhhaaGreatJK11
import Derived.Test.YtfloillkpbhhhaaGreatNK5
import Derived.Test.YtfloillkpbhhhaaGreatJK10
import Derived.WalkKit
import Derived.LaidEql
set_option linter.all false
noncomputable section
namespace Go.Proofs.YtfloillkpbhhhaaGreat
open Go.J
open Go.J.bo (enc)
set_option maxRecDepth 100000
set_option maxHeartbeats 4000000
variable {a:Am}{t tg:Bool}{c:Ctor}{d:Decl}{E:Env}{Q:Ex->PT V->HS->Prop}{C:HS}{r:Int}{o:J.Obj}{S:J.Spec}{f i j k p:Nat}{π:Nat->Nat}{μ:Nat->Nat->Y MI}{F:Nat->Prop}{I:Nat->Value}{H:PT J.Obj}{T:PT V}{P:Program}{v:V}{x:Value}{N:Z (Z Nat)}{m:Z Am}{D:Z Decl}{fs l s:Z G}{n:Z Nat}{e vs:Z V}
def zyr(i:Int):G:=.mk 2 [] i 0 []
def nJ(k:Nat):Z G:=(List.range k).map λj=>zyr ((j:Nat):Int)
def zcS:(nJ k).length=k:=by simp[nJ]
def zcT(h:j<(nJ k).length):(nJ k)[j]=zyr (j:Int):=by simp[nJ]
def su(d:Decl)(fs:Z G):G:=fs.foldr (λf t=>arr (G.fW d.params f) t) (G.mk 4 d.name 0 0 (nJ d.params.length))
def Jl (D:Z Decl) (n:Z Nat):Y (Decl×Ctor):=match zq D n 0 with
 |none=>none
 | some (i,k)=>match D[i]? with
   |none=>none
   | some d=>match d.ctors[k]? with
     |none=>none
     |some c=>some (d,c)
def Dt(D:Z Decl)(n:Z Nat):Scheme×Bool:=match Jl D n with
 |none=>(Rj,false)
 |some (d,c)=>(⟨(d.params.length:Int),su d c.fields⟩,true)
def U7:∀ {cs:Z Ctor} {n:Z Nat} {k0 k:Nat},KZ cs n k0=some k->∃ j,k=k0+j/\∃ hj:j<cs.length,cs[j].name=n
 | [],_,_,_,h=>by cases h
 | c :: l,n,k0,k,h=>by
   rw[KZ]at h;split at h
   . rename_i e;cases h;exact⟨0,rfl,by simp,by simpa using e⟩
   . obtain⟨j,rfl,hj,hn⟩:=U7 h;exact⟨j+1,by omega,by simpa using hj,by simpa using hn⟩
def UM:∀ {D:Z Decl} {n:Z Nat} {i0 i k:Nat},zq D n i0=some (i,k)->∃ j,i=i0+j/\∃ hj:j<D.length,∃ hk:k<D[j].ctors.length,D[j].ctors[k].name=n
 | [],_,_,_,_,h=>by cases h
 | d :: l,n,i0,i,k,h=>by
   rw[zq]at h;split at h
   . rename_i k' e;cases h;obtain⟨j,hj0,hj,hn⟩:=U7 e;rw[gI]at hj0;subst hj0;exact⟨0,rfl,by simp,hj,hn⟩
   . obtain⟨j,rfl,hj,hk,hn⟩:=UM h;exact⟨j+1,by omega,by simpa using hj,by simpa using hk,by simpa using hn⟩
theorem QO(h:zq D n 0=some (i,k)):∃ (hi:i<D.length) (hk:k<D[i].ctors.length),Jl D n=some (D[i],D[i].ctors[k])/\D[i].ctors[k].name=n:=by
 obtain⟨j,hj0,hj,hk,hn⟩:=UM h;rw[gI]at hj0;subst hj0;refine⟨hj,hk,?_,hn⟩;unfold Jl
 grind
def QP(h:zq D n 0=none):Jl D n=none:=by
 unfold Jl;rw[h]
def vG(l:Z G)(p j:Nat):Z (Z V):=(l.take j++List.replicate (p-j) tT).map au
def ze2:vG l p 0=List.replicate p (au tT):=by simp[vG]
def ze5(h:l.length=p):vG l p p=l.map au:=by simp[vG,<- h]
def zkc(h:l.length=p)(hj:j<=p):(vG l p j).length=p:=by
 simp only[vG,aL,bB,eB,List.length_replicate];omega
def ze4:(vG l p j).map fI=vG l p j:=by
 unfold vG;rw[iy];exact gm λa _=>iC.norm a
@[simp] def ze3  :((vG l p j).all λe=>e.all V.bM)=true:=nS _
def zcg:∀ x∈vG l p j,∀ v∈x,v.bM=true:=λx hx v hv=>aj.1 (aj.1 (ze3 (l:=l) (p:=p) (j:=j)) x hx) v hv
def zkb:(vG l p j).map (λe=>e.map (V.jl π))=vG l p j:=Cc λx hx v hv=>V.jP (zcg x hx v hv)
theorem zkd(h:l.length=p)(hj:j<p)(h':j<(vG l p j).length):(vG l p j)[j]=au tT:=by
 simp only[vG,ja]
 grind
theorem zka(h:l.length=p)(hj:j<p)(he:fI e=au (l[j]'(by omega))):((vG l p j).set j e).map fI=vG l p (j+1):=by
 rw[wK,ze4,he];unfold vG;rw[<- wK]
 congr 1
 have M:(l.take j).length=j:=by rw[eB];omega
 rw[pq _ _ (by omega),M,lh,gq (by omega),gu]
 congr 1
 obtain⟨m,hm⟩:∃ m,p-j=m+1:=⟨p-j-1,by omega⟩
 grind
def FZ(D:Z Decl):Prop:=D.length<=1000/\∀ d∈D,d.params.length<=1000/\d.ctors.length<=1000/\∀ c∈d.ctors,c.fields.length<=1000/\∀ f∈c.fields,f.ok=true/\f.size<=100000
def zBq(d:Decl)(fs:Z G)(H:PT J.Obj):Prop:=H.get 0=some (.arr 6 0 [[.int .i64 0,.int .i64 0,.str [],.int .i64 0,.int .i64 0,.aE]] true false false)/\H.get 1=some (.arr 4 0 [aP d] true false false)/\H.get 2=some (.arr 5 0 [au (su d fs)] true false false)
def zOr(d:Decl)(fs:Z G)(e:Z V)(T:PT V)(H:PT J.Obj)(N:Nat):Prop:=zBq d fs H/\T.get 4=some (.ptr 0 0 0)/\T.get 9=some (.ptr 1 0 0)/\T.get 12=some (.ptr 2 0 0)/\∃ id,T.get 14=some (.ptr id 0 0)/\4<id/\id<N/\H.get id=some (.arr 5 0 [e] true false false)
def Sn(hi:2<i)(h:zBq d fs H):zBq d fs (H.set i o):=by
 obtain⟨M,O,h3⟩:=h;exact⟨by rw[PT.cK,if_neg (by omega)];exact M,by rw[PT.cK,if_neg (by omega)];exact O,by rw[PT.cK,if_neg (by omega)];exact h3⟩
section
variable (hρ:J.Good I)
include hρ
section
variable (U:E.P=Pg)(aq:bH I E)
include U aq
def zfG{es:Z (Z V)}(b4:(AV 170 es tg).Fits vs C) :
 aT I Pg 89 vs C ((AV 170 es tg).val C) ((AV 170 es tg).heap C):=by
 refine em hρ U aq Tryz.func89 nN.2 rfl Mh ?_ b4;show Wp I E 0 _ _ _ { H:=dW [],n:=0,log:=[] } (J.Leaves E.P _ (aH 0 (.func 170 [.ptr 0 0 0]) [(0,jm (.sl es tg))]));simp[U];exact aH.bw
theorem zfh(hB:E.dE 91=NT)(hA:E.dE 90=Mi)(hfl:fs.length<=1000)(Ly:∀ f∈fs,f.ok=true/\f.size<=100000)(rn:d.params.length<=1000)
 {sz:Nat} (b8:sz=68)   
 (hT:aw 0 T C (dW [(4,.ptr 0 0 0),(9,.ptr 1 0 0),(12,.ptr 2 0 0),(54,.func 170 [.ptr 3 0 0])]) { H:=dW [(0,.arr 6 0 [[.int .i64 0,.int .i64 0,.str [],.int .i64 0,.int .i64 0,.aE]] true false false),(1,.arr 4 0 [aP d] true false false),(2,.arr 5 0 [au (su d [])] true false false),(3,jm (.sl (fs.map au) false))],n:=4,log:=[] })
 (hQ:Q .normal (dW [(4,.ptr 0 0 0),(9,.ptr 1 0 0),(12,.ptr 2 0 0)]) { H:=dW [(0,.arr 6 0 [[.int .i64 0,.int .i64 0,.str [],.int .i64 0,.int .i64 0,.aE]] true false false),(1,.arr 4 0 [aP d] true false false),(2,.arr 5 0 [au (su d fs)] true false false)],n:=4,log:=[] }) :
 Ls I E 0 sz (.range (.tmp 54) #[55,56] vI vH) T C Q:=by
 subst b8;refine nX (Sl hT ?_);refine zdc hρ aq (by rw[U];exact follows) (by rw[U];exact named) ?_
 refine Z7 (f:=170) (fn:=Tryz.f170) (tS:=33) (tE:=35) (tI:=3) (tB:=4) (IS:=PJ) (IE:=Z8) (val:=λe=>.agg e) (bx:=3) (by rw[U];exact Tryz.func170) vg.2 (by kernel_rfl) (by kernel_rfl) (by rw[U];simp) (by simp) (by rw[U];simp) (es:=fs.map au) (tg:=false) (by rw[zIA.2.1];exact zCd _) ?_ ?_ (by simp) (by simp) (by omega) ?_ ?_
  (λj H=>zBq d (fs.drop j) H) (λj e T H N=>zOr d (fs.drop (j+1)) e T H N) (λj H o h=>Sn (by omega) h) ?_ ?_ (JJ:=λ_ _=>False) (λ_ _ _ _ h=>h) (λ_ _ _ _ h=>h) ?_ ?_ ?_ (λ_ _ _ _ _ h=>h.elim)
 . simp_all
 . simp;omega
 . intro i hi;obtain⟨j,rfl⟩:∃ j,i=j+4:=⟨i-4,by omega⟩;simp
 . intro v1 v2;exact⟨_,rfl⟩
 . rintro j e T H N o ⟨g1,g4,g9,g12,id,g14,i1,i2,gid⟩;exact⟨Sn (by omega) g1,g4,g9,g12,id,g14,i1,i2,by rw[PT.cK,if_neg (by omega)];exact gid⟩
 . rw[aL,bz];exact⟨by simp,by simp,by simp⟩
 . intro i e he H N log T1 hN hv hI hz;cases hz;have gE:∀ j,H.get (N+j)=none:=λj=>hv _ (by omega)
   have ov:=hv N (af _);have h4:¬ 4=N:=by omega
   have h3:¬ 3=N:=by omega
   obtain⟨c,rfl⟩:∃ c,e=au c:=by
    grind
   refine X6 (I:=I) (k:=0) rfl ?_;simp[vI,U,gE,ov,h4,h3];refine⟨λj hj=>?_,Sn (by omega) (Sn (by omega) hI),by simp,by simp,by simp,N,by simp,by omega,by omega,by simp[kQ]⟩
   grind
 . rintro i e he H N log T2 hN hv ⟨⟨hI0,hI1,hI2⟩,g4,g9,g12,id,g14,i1,i2,gid⟩
   obtain⟨cA,rfl⟩:∃ h:i<fs.length,e=au fs[i]:=by
    grind
   have hfo:=Ly _ (az cA);have hF:U6 100000 fs[i] d.params=some (G.fW d.params fs[i]):=if_pos ⟨hfo.1,hfo.2,by omega⟩;have gR:su d (fs.drop i)=arr (G.fW d.params fs[i]) (su d (fs.drop (i+1))):=by rw[aK cA];rfl
   have gE:∀ j,H.get (N+j)=none:=λj=>hv _ (by omega)
   have n6:¬ id=2:=by omega
   refine X6 (I:=I) (k:=0) rfl ?_;show Wp I E 0 _ _ _ _ λex _ iu=>N<=iu.n/\iu.H.get 4=H.get 4/\(∀ i,iu.n<=i->iu.H.get i=none)/\(ex=.normal/\iu.H.get 3=H.get 3/\zBq d (fs.drop i) iu.H\/ex=.ret/\False)
   unfold zBq;rw[gR];generalize su d (fs.drop (i+1))=tt at hI2;generalize G.fW d.params fs[i]=y at hF;generalize fs[i]=ff at hF gid;cases tt;cases y;cases ff;cases d;simp only at hF;simp[aP]at hI1;simp[kQ]at hI2 gid;simp[vH,U,gE,g4,g9,g12,g14,gid,hI0,hI1,hI2,n6,hB,NT,hF,hA,Mi,aP,kQ,eD]
   grind
 . rintro H N log hN hv ⟨j1,j2,j3⟩;exact bO.mk (k:=0) (aw.bw 4 (TL:=[(4,.ptr 0 0 0),(9,.ptr 1 0 0),(12,.ptr 2 0 0)]) (HL:=[(0,.arr 6 0 [[.int .i64 0,.int .i64 0,.str [],.int .i64 0,.int .i64 0,.aE]] true false false),(1,.arr 4 0 [aP d] true false false),(2,.arr 5 0 [au (su d fs)] true false false)]) (by simp) (by simp[j1,j2,j3,kQ,aP]) rfl rfl) hQ
theorem zoK (ud:E.dE 87=BL) (hC:E.dE 88=K3) (zMp:E.dE 89=sj (Hg 170)) (hB:E.dE 91=NT) (hA:E.dE 90=Mi)   (hD:FZ D) (C:HS) :
 aT I Pg 45 [enc D,enc n] C (enc (Dt D n)) C:=by
 refine fn hρ U aq Tryz.func45 lM.2 rfl (by simp) ?_ C;have iz:D.length<=100000/\∀ d∈D,d.ctors.length<=100000:=⟨by have:=hD.1;omega,λd hd=>by have:=(hD.2 d hd).2.1;omega⟩;have yv:findF D n=some (Dl D n):=if_pos iz
 cases hf:zq D n 0 with
 | none =>
   have B0:Dl D n=⟨0,0,false⟩:=by unfold Dl;rw[hf]
   have C7:Dt D n=(Rj,false):=by unfold Dt;rw[QP hf]
   rw[C7];rw[B0]at yv;simp[U,ud,BL,yv,Rj,tT]
 | some q =>
   obtain⟨i,k⟩:=q;obtain⟨hi,hk,sT,cQ⟩:=QO hf;have B0:Dl D n=⟨(i:Int),(k:Int),true⟩:=by unfold Dl;rw[hf]
   have C7:Dt D n=(⟨(D[i].params.length:Int),su D[i] D[i].ctors[k].fields⟩,true):=by unfold Dt;rw[sT]
   rw[C7];rw[B0]at yv;clear B0 C7 sT;have hd:=hD.2 _ (az hi);have hc:=hd.2.2 _ (az hk);have m1:i*4 / 4=i:=by omega
   obtain⟨dd,ld⟩:∃ dd,D[i]=dd:=⟨_,rfl⟩;obtain⟨c,td⟩:∃ c,D[i].ctors[k]=c:=⟨_,rfl⟩;have Zt:∀ h,dd.ctors[k]'h=c:=by subst ld;intro h;exact td
   rw[td]at hc ⊢;rw[ld]at hd hk ⊢;clear td cQ;have hk3:(k:Int)<dd.ctors.length:=by omega
   have m3:k*3 / 3=k:=by omega
   have m4:(k*3+2) / 3=k:=by omega
   obtain⟨p,hp⟩:∃ p,dd.params.length=p:=⟨_,rfl⟩;have HI:p<=1000:=by rw[<- hp];exact hd.1
   have r1:p*64<=1048576:=by omega
   have r2:p*5<=1048576:=by omega
   have pT:(nJ p).length=p:=zcS;have lB:su dd []=G.mk 4 dd.name 0 0 (nJ p):=by rw[<- hp];rfl
   have tp:=λT C Q=>zfh hρ U aq hB hA (d:=dd) (fs:=c.fields) hc.1 hc.2 hd.1 (sz:=68) rfl (T:=T) (C:=C) (Q:=Q)
   obtain⟨dp,dn,R9,zHJ⟩:=dd;simp only at hp hk hk3 hd Zt lB;simp[U,ud,BL,yv,hi,ld,m1,aP,hp,r1,r2]
   try refine⟨rfl,?_⟩
   refine Sl (aw.auto (TL:=[(4,.ptr 0 0 0),(5,.bool false),(7,.int .i64 (k:Int)),(9,.ptr 1 0 0),(10,.own 2 0 0 p (some p)),(34,.int .i64 (p:Int)),(35,.int .i64 0)]) (HL:=[(0,.arr 6 0 [[.int .i64 0,.int .i64 0,.str [],.int .i64 0,.int .i64 0,.aE]] true false false),(1,.arr 4 0 [aP ⟨dp,dn,R9,zHJ⟩] true false false),(2,.arr 5 0 (List.replicate p [.int .i64 0,.str [],.int .i64 0,.int .i64 0,.aE]) true false true)]) (n:=3) (hH:=by simp[aP])) ?_
   refine vC hρ U aq p (nn:=3) (λj (_:Unit)=>[(4,.ptr 0 0 0),(5,.bool false),(7,.int .i64 (k:Int)),(9,.ptr 1 0 0),(10,.own 2 0 0 p (some p)),(34,.int .i64 (p:Int)),(35,.int .i64 (j:Int))])
    (λj _=>[(0,.arr 6 0 [[.int .i64 0,.int .i64 0,.str [],.int .i64 0,.int .i64 0,.aE]] true false false),(1,.arr 4 0 [aP ⟨dp,dn,R9,zHJ⟩] true false false),(2,.arr 5 0 (vG (nJ p) p j) true false true)]) (λj _=>True) ()
    (aw.Zb (λi=>i) 3 (by simp) (by simp[ze2,aP,kQ,tT]) (by simp) (by simp)) trivial ?_ ?_
   . intro _ _ K;rw[ze5 pT];have mA:List.take p ((nJ p).map au)=(nJ p).map au:=aZ (by rw[aL];omega);generalize nJ p=vs at pT lB mA;simp[wH,U];refine bO.mk (aw.auto (TL:=[(4,.ptr 0 0 0),(7,.int .i64 (k:Int)),(9,.ptr 1 0 0),(10,.own 2 0 0 p (some p))]) (HL:=[(0,.arr 6 0 [[.int .i64 0,.int .i64 0,.str [],.int .i64 0,.int .i64 0,.aE]] true false false),(1,.arr 4 0 [aP ⟨dp,dn,R9,zHJ⟩] true false false),(2,.arr 5 0 (vs.map au) true false true)]) (n:=3) (hH:=by simp[aP])) ?_
     cases vs with
     | nil =>
       cases pT;simp[U,hC,zMp,hk,hk3,Zt,m3,m4,aP,iD,KJ,aJ];refine tp _ _ _ (aw.auto (hH:=by simp[lB,aP,kQ])) ?_
       simp_all
     | cons v vs =>
       cases pT;have lP:vs.length+1<=1000:=HI;simp only[aX]at mA hp;simp at mA;simp[U,hC,Du,lP,mA,zMp,hk,hk3,Zt,m3,m4,aP,iD,KJ,aJ];refine tp _ _ _ (aw.auto (hH:=by simp[lB,aP,kQ])) ?_
       simp_all
   . intro j _ hj _ K hK;have js:(j:Int)<p:=by omega
     have cy:=bI (i:=j);have Xh:j<(vG (nJ p) p j).length:=by rw[zkc pT (dN hj)];exact hj
     have zJP:∀ h,kI ((vG (nJ p) p j)[j]'h) 0 [V.int .i64 2,.str [],.int .i64 (j:Int),.int .i64 0,.aE]=[V.int .i64 2,.str [],.int .i64 (j:Int),.int .i64 0,.aE]:=by
      intro h;rw[zkd pT hj];rfl
     have zn4:=zka (l:=nJ p) (p:=p) (j:=j) pT hj (e:=[V.int .i64 2,.str [],.int .i64 (j:Int),.int .i64 0,.aE]) (by rw[zcT];rfl);have bc:=hK () trivial;have zN:(j*5) / 5=j:=by omega
     have Ms:(j*5) % 5=0:=by omega
     simp[wH,U,hj,js,cy,Xh,zN,Ms,zJP,-Int.natCast_add];exact bc _ _ (aw.Zb (λi=>i) 3 (by simp[-Int.natCast_add]) (by simp[zn4,zkb,aP,-List.map_set]) (by simp) (by simp))
end
def zqW:Valid I Pg 89 (sj (Hg 170)):=Valid.DG (fo Tryz.func89 nN.2) λvs C D h=>by
 obtain⟨es,tg,rfl,hg,b4⟩:=PQ h;exact zfG hρ (E:=EL []) rfl (ag aG) b4
open Classical in
def zoL(D:Z Decl)(n:Z Nat):Y (Scheme×Bool):=if FZ D then some (Dt D n)else none
def zhw:J.Spec:=dH (dC zoL)
def zBV:Valid I Pg 45 zhw:=v2 (fo Tryz.func45 lM.2) λa b r h C=>by
 unfold zoL at h;obtain⟨M,rfl⟩:=bF h
 exact zoK hρ (E:=EL [(87,BL),(88,K3),(89,sj (Hg 170)),(91,NT),(90,Mi)]) rfl
  (ag (ae (zgi hρ) (ae (zlC hρ) (ae (zqW hρ) (ae (zt8 hρ) (ae (zgf hρ) aG)))))) rfl rfl rfl rfl rfl M C
end
def j4(s:Z G)(t:G):G:=if t.kind=2/\0<=t.id/\t.id<s.length then s.getD t.id.toNat t else t
def zhc(s:Z G)(t:G):Y G:=if s.length<=100000/\t.ok=true then some (j4 s t)else none
def Tl(d:Nat)(s:Z G)(t:G):Y G:=if s.length<=100000/\t.ok=true/\t.size<=d then some (t.D8 (j4 s))else none
section
variable (hρ:J.Good I)
include hρ
section
variable (U:E.P=Pg)(aq:bH I E)
include U aq
def Oy {t:G}  {id:Nat}   (b4:(Jr (enc s) id [enc t,PK none 0] (enc (j4 s t))).Fits vs C) :
 aT I Pg 262 vs C ((Jr (enc s) id [enc t,PK none 0] (enc (j4 s t))).val C) ((Jr (enc s) id [enc t,PK none 0] (enc (j4 s t))).heap C):=by
 refine em hρ U aq Tryz.func262 JB.2 rfl (PL (by simp)) ?_ b4;show Wp I E 1 _ _ _ { H:=dW [(0,jm (enc s))],n:=1,log:=[] } (J.Leaves E.P _ (aH 1 (enc (j4 s t)) [(0,jm (enc s))]));unfold j4;obtain⟨tk,tn,ti,th,tl⟩:=t;show Wp I E 1 _ _ _ { H:=dW [(0,jm (enc s))],n:=1,log:=[] } (J.Leaves E.P _ (aH 1 (enc (if tk=2/\0<=ti/\ti<s.length then s.getD ti.toNat (.mk tk tn ti th tl)else .mk tk tn ti th tl)) [(0,jm (enc s))]));by_cases hk:tk=2
 . subst hk;by_cases h0:0<=ti
   . obtain⟨i,rfl⟩:=bK h0;by_cases M:i<s.length
     . rw[if_pos ⟨rfl,h0,by omega⟩];have vj:(i:Int)<s.length:=by omega
       have zN:(i*5) / 5=i:=by omega
       have hg:s.getD (i:Int).toNat (.mk 2 tn i th tl)=s[i]:=by simp[M]
       rw[hg];obtain⟨u,hu⟩:∃ u,s[i]=u:=⟨_,rfl⟩;rw[hu];cases u;simp[U,M,vj,zN,hu];exact aH.bw
     . rw[if_neg (by omega)];have vj:¬ (i:Int)<s.length:=by omega
       simp[U,M,vj];exact aH.bw
   . rw[if_neg (by omega)];simp[U,h0];exact aH.bw
 . rw[if_neg (by omega)];simp[U,hk];exact aH.bw
def Lj{d:Nat}(hL:E.dE 262=sj (Vg none zhc))(hc:E.dE 163=sj (Vg (some 262) (Tl d))){t:G}(ht:t.ok=true)(hd:t.size<=d+1)(sf:s.length<=100000){id:Nat}
 (b4:(Jr (enc s) id [enc t,PK (some 262) 0] (enc (t.D8 (j4 s)))).Fits vs C) :
 aT I Pg 163 vs C ((Jr (enc s) id [enc t,PK (some 262) 0] (enc (t.D8 (j4 s)))).val C) ((Jr (enc s) id [enc t,PK (some 262) 0] (enc (t.D8 (j4 s)))).heap C):=by
 rw[<- U];refine zsU hρ aq (by rw[U];exact follows) (by rw[U];exact named) (by rw[U];exact Tryz.func163) wU.2 rfl (PL (by simp)) ?_ b4;show Wp I E 1 _ _ _ { H:=dW [(0,jm (enc s))],n:=1,log:=[] } (J.Leaves E.P _ (BG 1 (enc (t.D8 (j4 s))) [(0,jm (enc s))]));have hlen:=G.wW ht;by_cases hk:t.args=[]
 . rw[Fv hk];have hF:zhc s t=some (j4 s t):=if_pos ⟨sf,ht⟩;generalize j4 s t=r at hF;cases t;simp only[G.fC]at hk;subst hk;simp[U,hL,hF];exact BG.bw rfl rfl (by simp[kP]) (by simp[pC])
 . rw[Av hk];have xo:¬ t.args.length=0:=λe=>hk (dM e)
   simp[U,hk,xo];have k1:t.args.length*64<=1048576:=aO (aN 64 hlen) (by decide);have k2:t.args.length*5<=1048576:=aO (aN 5 hlen) (by decide);refine⟨⟨k1,k2⟩,?_⟩;have We:(t.args.map (G.D8 (j4 s))).length=t.args.length:=aL ..
   refine vC hρ U aq t.args.length (nn:=4) (λi (_:Unit)=>[(1,.func 262 [.ptr 0 0 0]),(2,.ptr 1 0 0),(4,.ptr 2 0 0),(5,.own 3 0 0 t.args.length (some t.args.length)),(20,.sl (t.args.map au) false),(21,.int .i64 (t.args.length:Int)),(22,.int .i64 (i:Int))])
    (λi _=>[(0,jm (.sl (s.map au) false)),(1,box (au t)),(2,box Ya),(3,.arr 5 0 (nL (t.args.map (G.D8 (j4 s))) t.args.length i) true false true)]) (λi _=>True) ()
    (aw.auto (hH:=by simp[zR])) trivial ?_ ?_
   . intro _ _ K;rw[zT We];simp[DJ,U];refine bO.mk (aw.auto (TL:=[(2,.ptr 1 0 0),(4,.ptr 2 0 0),(5,.own 3 0 0 t.args.length (some t.args.length))]) (HL:=[(0,jm (.sl (s.map au) false)),(1,box (au t)),(2,box Ya),(3,.arr 5 0 ((t.args.map (G.D8 (j4 s))).map au) true false true)]) (n:=4)) ?_;simp[U];have Ft:gT (t.args.map (au ∘ G.D8 (j4 s)))=t.args.map (au ∘ G.D8 (j4 s)):=by rw[<- iy];simp[-List.map_map]
     exact BG.bw rfl rfl (by simp[kP,Ft]) (by simp[pC])
   . intro i _ hi _ K hK;have cj:(i:Int)<t.args.length:=by omega
     have cy:=bI (i:=i);have hm:=az hi;have hF:Tl d s t.args[i]=some (t.args[i].D8 (j4 s)):=if_pos ⟨sf,G.EJ ht hm,by have:=G.Au hm;omega⟩;have Xh:i<(nL (t.args.map (G.D8 (j4 s))) t.args.length i).length:=by rw[Cy We (dN hi)];exact hi
     have m9:=zS We hi Xh;rw[ja]at m9;have bc:=hK () trivial;have zN:(i*5) / 5=i:=by omega
     have Ms:(i*5) % 5=0:=by omega
     generalize hy:t.args[i].D8 (j4 s)=y at hF m9;simp[kQ]at m9;simp[DJ,U,hi,cj,hc,hF,cy,Xh,zN,Ms,m9,-Int.natCast_add];exact bc _ _ (aw.auto)
def SF{d:Nat}(hc:E.dE 163=sj (Vg (some 262) (Tl d))){t:G}(ht:t.ok=true)(hd:t.size<=d)(sf:s.length<=100000)(C:HS):aT I Pg 235 [enc t,enc s] C (enc (t.D8 (j4 s))) C:=by
 refine fn hρ U aq Tryz.func235 NW.2 rfl (by simp) ?_ C;have hF:Tl d s t=some (t.D8 (j4 s)):=if_pos ⟨sf,ht,hd⟩;simp[U,hc,hF]
end
def zvJ:Valid I Pg 262 (sj (Vg none zhc)):=Valid.DG (fo Tryz.func262 JB.2) λvs C D h=>by
 obtain⟨s,a,r,id,hF,rfl,_,b4⟩:=Vf (λs=>by simp) h;obtain⟨⟨M,O⟩,rfl⟩:=bF hF;exact Oy hρ (E:=EL []) rfl (ag aG) b4
def zh9(d:Nat):Valid I Pg 163 (sj (Vg (some 262) (Tl d))):=by
 induction d with
 | zero =>
   refine Valid.DG (fo Tryz.func163 wU.2) λvs C D h=>?_
   obtain⟨s,a,r,id,hF,rfl,_,b4⟩:=Vf (λs=>by simp) h;obtain⟨⟨M,O,h3⟩,rfl⟩:=bF hF;have:=G.size_eq a;omega
 | succ d ih =>
   refine Valid.DG (fo Tryz.func163 wU.2) λvs C D h=>?_
   obtain⟨s,a,r,id,hF,rfl,_,b4⟩:=Vf (λs=>by simp) h;obtain⟨⟨M,O,h3⟩,rfl⟩:=bF hF
   exact Lj hρ (E:=EL [(262,sj (Vg none zhc)),(163,sj (Vg (some 262) (Tl d)))]) rfl
    (ag (ae (zvJ hρ) (ae ih aG))) rfl rfl O h3 M b4
def IP:J.Spec:=dH (dC λ(t:G) (s:Z G)=>if t.ok=true/\s.length<=100000 then some (t.D8 (j4 s))else none)
def zlB:Valid I Pg 235 IP:=v2 (fo Tryz.func235 NW.2) λa b r h C=>by
 obtain⟨⟨M,O⟩,rfl⟩:=bF h;exact SF hρ (E:=EL [(163,sj (Vg (some 262) (Tl a.size)))]) rfl (ag (ae (zh9 hρ a.size) aG)) rfl M (af _) O C
end
mutual
theorem zo9:∀ {t:G},t.ok=true->(G.fW N t).ok=true
 | .mk k n i h l,er=>by
   rw[G.fW];split
   . rfl
   . rw[G.ok]at er ⊢;simp only[aQ]at er ⊢;refine⟨?_,zhC er.2⟩;rw[zcR,aL];exact er.1
theorem zhC:∀ {l:Z G},G.eK l=true->G.eK (G.xq N l)=true
 | [],_=>by rw[G.xq];rfl
 | t::l,h=>by
   rw[G.eK]at h;simp only[aQ]at h;rw[G.xq,G.eK,zo9 h.1,zhC h.2];rfl
end
def pY(N:Z (Z Nat))(args:Z G)(f:G):G:=(G.fW N f).D8 (j4 args)
def mV(D:Z Decl)(n:Z Nat)(args:Z G):Z G×Bool:=match Jl D n with
 |none=>([],false)
 |some (d,c)=>if args.length=d.params.length then (c.fields.map (pY d.params args),true)else ([],false)
open Classical in
def Zz(D:Z Decl)(n:Z Nat)(args:Z G):Y (Z G×Bool):=if FZ D/\args.length<=100000 then some (mV D n args)else none
def Ef:J.Spec:=dH (tZ Zz)
def BK(D:Z Decl)(ctx:Z Entry)(x:Xp):Scheme×Bool:=if x.kind=1 then rD ctx x.name else if x.kind=2 then Dt D x.name else (Rj,false)
open Classical in
def LF(D:Z Decl)(ctx:Z Entry)(x:Xp):Y (Scheme×Bool):=if FZ D/\ctx.length<=100000 then some (BK D ctx x)else none
def LD:J.Spec:=dH (tZ LF)
section
variable (hρ:J.Good I)
include hρ
section
variable (U:E.P=Pg)(aq:bH I E)
include U aq
def LX (ud:E.dE 87=BL) (hB:E.dE 91=NT) (hO:E.dE 235=IP)   {args:Z G} (hD:FZ D) (sX:args.length<=100000) (C:HS) :
 aT I Pg 204 [enc D,enc n,enc args] C (enc (mV D n args)) C:=by
 refine fn hρ U aq Tryz.func204 Ad.2 rfl (by simp) ?_ C;have iz:D.length<=100000/\∀ d∈D,d.ctors.length<=100000:=⟨by have:=hD.1;omega,λd hd=>by have:=(hD.2 d hd).2.1;omega⟩;have yv:findF D n=some (Dl D n):=if_pos iz
 cases hf:zq D n 0 with
 | none =>
   have B0:Dl D n=⟨0,0,false⟩:=by unfold Dl;rw[hf]
   have C7:mV D n args=([],false):=by unfold mV;rw[QP hf]
   rw[C7];rw[B0]at yv;simp[U,ud,BL,yv]
 | some q =>
   obtain⟨i,k⟩:=q;obtain⟨hi,hk,sT,cQ⟩:=QO hf;have B0:Dl D n=⟨(i:Int),(k:Int),true⟩:=by unfold Dl;rw[hf]
   have C7:mV D n args=(if args.length=D[i].params.length then (D[i].ctors[k].fields.map (pY D[i].params args),true)else ([],false)):=by unfold mV;rw[sT]
   rw[C7];rw[B0]at yv;clear B0 C7 sT;have hd:=hD.2 _ (az hi);have hc:=hd.2.2 _ (az hk);have GC:(i:Int)<D.length:=by omega
   have m1:i*4 / 4=i:=by omega
   have m2:(i*4+2) / 4=i:=by omega
   have zGF:(i*4+2) % 4=2:=by omega
   have m6:(i*4+3) / 4=i:=by omega
   have zNB:(i*4+3) % 4=3:=by omega
   obtain⟨dd,ld⟩:∃ dd,D[i]=dd:=⟨_,rfl⟩;obtain⟨c,td⟩:∃ c,D[i].ctors[k]=c:=⟨_,rfl⟩;have Zt:∀ h,dd.ctors[k]'h=c:=by subst ld;intro h;exact td
   rw[td]at hc ⊢;rw[ld]at hd hk ⊢;clear td cQ;have hk3:(k:Int)<dd.ctors.length:=by omega
   have m3:k*3 / 3=k:=by omega
   have m4:(k*3+2) / 3=k:=by omega
   have m5:(k*3+2) % 3=2:=by omega
   obtain⟨dp,dn,R9,zHJ⟩:=dd;simp only at hk hk3 hd Zt ⊢;by_cases he:args.length=R9.length
   . rw [if_pos he];have he2:(args.length:Int)=R9.length:=by omega
     simp[U,ud,BL,yv,hi,GC,ld,m1,m2,zGF,m6,zNB,aP,hk,hk3,Zt,m3,m4,m5,iD,he,he2]
     refine vC hρ U aq c.fields.length (nn:=1) (λj (_:Unit)=>[(0,.sl (D.map aP) false),(2,.sl (args.map au) false),(8,.int .i64 (i:Int)),(11,oV 0 (((c.fields.map (pY R9 args)).take j).map au)),(42,.sl (c.fields.map au) false),(43,.int .i64 (c.fields.length:Int)),(44,.int .i64 (j:Int))])
      (λj _=>oH 0 5 (((c.fields.map (pY R9 args)).take j).map au)) (λj _=>True) ()
      (aw.auto) trivial ?_ ?_
     . intro _ _ K;have wa:(c.fields.map (pY R9 args)).take c.fields.length=c.fields.map (pY R9 args):=aZ (by simp);rw[wa];generalize c.fields.map (pY R9 args)=out
       cases out with
       | nil =>
         simp[qd,U];refine bO.mk (aw.auto (TL:=[(11,.aE)]) (HL:=[]) (n:=1)) ?_;simp[U]
       | cons y out =>
         simp[qd,U];refine bO.mk (aw.auto (TL:=[(11,oV 0 ((y::out).map au))]) (HL:=oH 0 5 ((y::out).map au)) (n:=1)) ?_;simp[U]
     . intro j _ hj _ K hK;have js:(j:Int)<c.fields.length:=by omega
       have cy:=bI (i:=j);have bc:=hK () trivial;have zN:(j*5) / 5=j:=by omega
       have Ms:(j*5) % 5=0:=by omega
       have hfo:=hc.2 _ (az hj);have hF:U6 100000 c.fields[j] R9=some (G.fW R9 c.fields[j]):=if_pos ⟨hfo.1,hfo.2,by have:=hd.1;omega⟩;have Oo:(G.fW R9 c.fields[j]).ok=true:=zo9 hfo.1;have hlm:(c.fields.map (pY R9 args)).length=c.fields.length:=aL ..;have gR:(c.fields.map (pY R9 args)).take (j+1)=(c.fields.map (pY R9 args)).take j++[pY R9 args c.fields[j]]:=by rw[gq (by omega),ja]
       have hlen:((c.fields.map (pY R9 args)).take j).length=j:=by rw[eB];omega
       rw[gR]at bc;obtain⟨y,hy⟩:∃ y,pY R9 args c.fields[j]=y:=⟨_,rfl⟩;rw[hy]at bc;replace hy:(G.fW R9 c.fields[j]).D8 (j4 args)=y:=hy;generalize G.fW R9 c.fields[j]=bb at hF Oo hy;have k1:(j+1)*64<=1048576:=by have:=hc.1;omega
       obtain⟨out,oS⟩:∃ out,(c.fields.map (pY R9 args)).take j=out:=⟨_,rfl⟩;rw[oS]at hlen bc;rw[oS];cases bb;cases y
       cases out with
       | nil =>
         simp[qd,U,hj,js,zN,Ms,hi,GC,ld,m1,m2,zGF,aP,hB,NT,hF,hO,IP,Oo,sX,hy,cy,-Int.natCast_add];exact bc _ _ (aw.auto)
       | cons x out =>
         rw[aX]at hlen;rw[<- hlen]at k1;simp[qd,U,hj,js,zN,Ms,hi,GC,ld,m1,m2,zGF,aP,hB,NT,hF,hO,IP,Oo,sX,hy,cy,k1,aY,-Int.natCast_add];exact bc _ _ (aw.auto)
   . rw[if_neg he];have he2:¬ (args.length:Int)=R9.length:=by omega
     simp[U,ud,BL,yv,hi,GC,ld,m1,m2,zGF,aP,he,he2]
theorem zjs(hL:E.dE 202=IW)(hC:E.dE 45=zhw){ctx:Z Entry}{x:Xp}(hD:FZ D)(hl:ctx.length<=100000)(C:HS):aT I Pg 129 [enc D,enc ctx,enc x] C (enc (BK D ctx x)) C:=by
 refine fn hρ U aq Tryz.func129 Lc.2 rfl (by simp) ?_ C;have hF:zoL D x.name=some (Dt D x.name):=if_pos hD;unfold BK;by_cases M:x.kind=1
 . rw[if_pos M];generalize hq:rD ctx x.name=q;obtain⟨⟨sc,⟨tk,tn,ti,th,tl⟩⟩,b⟩:=q;cases x;simp only[Xp.fw,Xp.jC]at M hq;subst M;simp[U,bL,hL,IW,hl,hq]
 . rw[if_neg M];by_cases O:x.kind=2
   . rw[if_pos O];generalize Dt D x.name=q at hF;obtain⟨⟨sc,⟨tk,tn,ti,th,tl⟩⟩,b⟩:=q;cases x;simp only[Xp.fw,Xp.jC]at M O hF;subst O;simp[U,bL,hC,zhw,hF]
   simp_all [bL,Rj,tT]
end
def zqR:Valid I Pg 204 Ef:=v3 (fo Tryz.func204 Ad.2) λa b c r h C=>by
 unfold Zz at h;obtain⟨⟨M,O⟩,rfl⟩:=bF h;exact LX hρ (E:=EL [(87,BL),(91,NT),(235,IP)]) rfl (ag (ae (zgi hρ) (ae (zt8 hρ) (ae (zlB hρ) aG)))) rfl rfl rfl M O C
def zvL:Valid I Pg 129 LD:=v3 (fo Tryz.func129 Lc.2) λa b c r h C=>by
 unfold LF at h;obtain⟨⟨M,O⟩,rfl⟩:=bF h;exact zjs hρ (E:=EL [(202,IW),(45,zhw)]) rfl (ag (ae (zt6 hρ) (ae (zBV hρ) aG))) rfl rfl M O C
end
structure B3 where
 l:List Am
@[simp] def B3.eta (a:B3):(⟨a.l⟩:B3)=a:=(rfl)
def oG(a:B3):Z V:=[.sl (a.l.map gL) false]
@[simp] def zEN {a:B3}:oG a=[.sl (a.l.map gL) false]:=(rfl)
def ZK(c:Z V):Y B3:=match c with
 | [.sl es false]=>W (eT es:Y (Z Am)) λl=>some ⟨l⟩
 |_=>none
@[simp] def zoH {es:Z (Z V)}:ZK [.sl es false]=W (eT es:Y (Z Am)) λl=>some ⟨l⟩:=(rfl)
instance:iC B3 where
 cells:=oG
 dec:=ZK
 bZ a:=by simp only[oG,zoH,zsZ,dY]
 bq c a h:=by
  unfold ZK at h;split at h
  . simp only[aA]at h;obtain⟨l,hl,h⟩:=h;cases h;have hl:=iT hl
    subst_vars
    rfl
  . cases h
 bM a:=rfl
 norm a:=by simp only[oG,fI,gX,zrQ]
@[simp] def zye:@iC.dec B3 _=ZK:=(rfl)
def rH:Z Ctor->Z Am->Bool
 | [],[]=>true
 |c::l,a::m=>decide (c.name=a.dE)&&rH l m
 |_,_=>false
def X4:∀ {l:Z Ctor} {m:Z Am},l.length≠m.length->rH l m=false
 | [],[],h=>absurd rfl h
 | [],_::_,_=>rfl
 |_::_,[],_=>rfl
 | c::l,a::m,h=>by
   rw[rH,X4 (l:=l) (m:=m) (by simpa using h),Bool.and_false]
def ZC(vs:Z V):Y V:=match vs with
 | [a,b,.func g' []]=>gd (Nat.beq g' 252) (W (bo.dec a:Y (Z Ctor)) λl=>W (bo.dec b:Y (Z Am)) λm=>if l.length<=100000 then some (.bool (rH l m))else none)
 |_=>none
theorem zsP{l:Z Ctor}(h:l.length<=100000):ZC [enc l,enc m,.func 252 []]=some (.bool (rH l m)):=by
 unfold ZC
 simp_all
def zoD(h:ZC vs=some v):∃ (l:Z Ctor) (m:Z Am),vs=[enc l,enc m,.func 252 []]/\l.length<=100000/\v=.bool (rH l m):=by
 unfold ZC at h;split at h
 . rename_i a b g';simp only[bE,aA,J.beq_true]at h;obtain⟨rfl,l,hl,m,hm,h⟩:=h;obtain⟨M,rfl⟩:=bF h;exact⟨l,m,by rw[bo.bq _ _ hl,bo.bq _ _ hm],M,rfl⟩
 . cases h
def HZ(d:Decl)(a:B3):Y Bool:=if d.ctors.length<=100000 then some (rH d.ctors a.l)else none
def K5(D:Z Decl)(m:Z Am):Int:=gU (λd:Decl=>rH d.ctors m) D 0
def En(D:Z Decl)(m:Z Am):Int×Bool:=(max (K5 D m) 0,decide (0<=K5 D m))
section
variable (hρ:J.Good I)
include hρ
section
variable (U:E.P=Pg)(aq:bH I E)
include U aq
theorem zkQ(C:HS):aT I Pg 252 [enc c,enc a] C (enc (decide (c.name=a.dE))) C:=by
 refine fn hρ U aq Tryz.func252 FU.2 rfl (by simp) ?_ C
 simp_all
theorem zsO (hC:E.dE 252=dH (dC λ(c:Ctor) (a:Am)=>some (decide (c.name=a.dE)))) {l:Z Ctor}  (hl:l.length<=100000) (C:HS):aT I Pg 251 [enc l,enc m,.func 252 []] C (.bool (rH l m)) C:=by
 refine fn hρ U aq Tryz.func251 eH.2 rfl (by simp) ?_ C;by_cases hlm:l.length=m.length
 . generalize hr:rH l m=r;have zD7:(l.length:Int)=(m.length:Int):=by omega
   simp[U,hlm,zD7]
   refine vC hρ U aq l.length (nn:=0) (λi (_:Unit)=>[(0,.sl (l.map iD) false),(1,.sl (m.map gL) false),(2,.func 252 []),(15,.sl (l.map iD) false),(16,.int .i64 (l.length:Int)),(17,.int .i64 (i:Int))]) (λi _=>[])
    (λi _=>rH (l.drop i) (m.drop i)=r) () (aw.auto (by simp[hlm])) (by simpa using hr) ?_ ?_
   . intro _ h K;rw[bz,hlm,bz,rH]at h;simp[dZ,U];refine bO.mk (aw.auto (TL:=[]) (HL:=[]) (n:=0)) ?_;simp[U,<- h]
   . intro i _ hi h K hK;have cj:(i:Int)<l.length:=by omega
     have pP:i<m.length:=by omega
     have GC:(i:Int)<m.length:=by omega
     have cy:=bI (i:=i);have m1:i*3 / 3=i:=by omega
     have m2:i*3 % 3=0:=by omega
     have m3:i*14 / 14=i:=by omega
     have m4:i*14 % 14=0:=by omega
     rw[aK hi,aK pP,rH]at h;have bc:=λe=>hK () e
     generalize vd:l[i]=c at h;generalize HO:m[i]=a at h;by_cases he:c.name=a.dE
     . rw[decide_eq_true he,gH]at h;have bc:=hK () h;obtain⟨ap,ac,av,⟨bk,bp,bn,bm,bl,ba,⟨tk,tn,ti,th,tl⟩⟩⟩:=a;cases c;simp only[Am.Md]at he;simp[dZ,U,hi,cj,pP,GC,m1,m2,m3,m4,vd,HO,iD,jO,bL,hC,he,cy,-Int.natCast_add];exact bc _ _ (aw.auto)
     . rw[decide_eq_false he,sD]at h;obtain⟨ap,ac,av,⟨bk,bp,bn,bm,bl,ba,⟨tk,tn,ti,th,tl⟩⟩⟩:=a;cases c;simp only[Am.Md]at he;simp[dZ,U,hi,cj,pP,GC,m1,m2,m3,m4,vd,HO,iD,jO,bL,hC,he];refine bO.mk (aw.auto (TL:=[(6,.bool false)]) (HL:=[]) (n:=0)) ?_;simp[U,<- h]
 . rw[X4 hlm];have zD7:¬ (l.length:Int)=(m.length:Int):=by omega
   simp_all
end
def zvU:Valid I Pg 252 (dH (dC λ(c:Ctor) (a:Am)=>some (decide (c.name=a.dE)))):=v2 (fo Tryz.func252 FU.2) λa b r h C=>by
 cases h;exact zkQ hρ (E:=EL []) rfl (ag aG) C
def zIo:Valid I Pg 251 (dH ZC):=Valid.dH (fo Tryz.func251 eH.2) λvs v h C=>by
 obtain⟨l,m,rfl,M,rfl⟩:=zoD h;exact zsO hρ (E:=EL [(252,dH (dC λ(c:Ctor) (a:Am)=>some (decide (c.name=a.dE))))]) rfl (ag (ae (zvU hρ) aG)) rfl M C
def zvT:Valid I Pg 250 (OV 4 none (BV HZ)):=Valid.rd (fo Tryz.func250 JE.2) λX cs r h hp x X0 RL hX C q hq hc eN hx=>by
 obtain⟨a,p,b,rfl,rfl,hF,rfl⟩:=IC h;obtain⟨M,rfl⟩:=bF hF;have UG:(EL [(251,dH ZC)]).P=Pg:=rfl;have cQ:bH I (EL [(251,dH ZC)]):=ag (ae (zIo hρ) aG);rcases hx with⟨rfl,rfl,AD,ue⟩|⟨es,i,rfl,cb,rfl,rfl,h5,h6,h7⟩
 . rcases hX with⟨rfl,_,_⟩|⟨es,e1,_⟩
   . refine TD (sz:=4) (g:=none) (RL:=[]) (cs:=[oG p]) hρ cQ follows named Tryz.func250 JE.2 rfl hp ?_ hq hc eN (.inl ⟨rfl,rfl,AD,ue⟩);rw[show Tryz.f250.ntmps=8 from rfl];have lR:=zsP (l:=a.ctors) (m:=p.l) M;generalize rH a.ctors p.l=bb at lR;cases a;cases p;simp at lR;have td:(EL [(251,dH ZC)]).dE 251=dH ZC:=rfl;simp[UG,td,aP,lR]
     all_goals exact aH.bw
   . cases e1
 . rcases hX with⟨e1,e2,_⟩|⟨EV,e1,_⟩
   . rw[jy cb]at e2;cases e2
   . cases e1
end
def znS(l:Z Decl)(c0:B3):Y Int:=if l.length<=100000/\∀ x∈l,(HZ x c0).isSome=true then some (gU (λx=>(HZ x c0).getD false) l 0)else none
section
variable (hρ:J.Good I)
include hρ
section
variable (U:E.P=Pg)(aq:bH I E)
include U aq
def tF(hc:E.dE 250=OV 4 none (BV HZ)){l:Z Decl}{c0:B3}(hl:l.length<=100000)(b6:∀ x∈l,(HZ x c0).isSome=true)  (hr:gU (λx=>(HZ x c0).getD false) l 0=r) :
 Wp I E 1 Tryz.f249.ntmps eZ.1 ((PT.leaf.set 0 (.sl (l.map aP) false)).set 1 (.func 250 [.ptr 0 0 0])) { H:=dW [(0,box (oG c0))],n:=1,log:=[] } (J.Leaves E.P Tryz.f249 (aH 1 (enc r) [(0,box (oG c0))])):=by
 rw[show Tryz.f249.ntmps=19 from rfl];simp[U]
 refine vC hρ U aq l.length (nn:=1) (λi (_:Unit)=>[(0,.sl (l.map aP) false),(1,.func 250 [.ptr 0 0 0]),(7,.int .i64 (l.length:Int)),(8,.int .i64 (i:Int))])
  (λi _=>[(0,box (oG c0))]) (λi _=>gU (λx=>(HZ x c0).getD false) (l.drop i) (i:Int)=r) ()
  (aw.auto) (by simpa using hr) ?_ ?_
 . intro _ h K;rw[bz,gU]at h;simp[dO,U];refine bO.mk (aw.auto (TL:=[]) (HL:=[(0,box (oG c0))]) (n:=1)) ?_;simp[U,<- h];exact aH.bw
 . intro i _ hi h K hK;have cj:(i:Int)<l.length:=by omega
   have cy:=bI (i:=i);have zN:(i*4) / 4=i:=by omega
   obtain⟨q,hq⟩:=bN.1 (b6 l[i] (az hi));rw[aK hi,gU,hq]at h;simp only[eu]at h
   cases q with
   | true =>
     rw[if_pos rfl]at h;simp[dO,U,hi,cj,zN,hc,hq];refine bO.mk (aw.auto (TL:=[(4,.int .i64 (i:Int))]) (HL:=[(0,box (oG c0))]) (n:=1)) ?_;simp[U,<- h];exact aH.bw
   | false =>
     rw[if_neg (by decide)]at h;have bc:=hK () h;simp[dO,U,hi,cj,zN,hc,hq,cy,-Int.natCast_add];exact bc _ _ (aw.auto)
def tq(hc:E.dE 250=OV 4 none (BV HZ)){l:Z Decl}{c0:B3}(hl:l.length<=100000)(b6:∀ x∈l,(HZ x c0).isSome=true)(cb:l≠[])(hr:gU (λx=>(HZ x c0).getD false) l 0=r) :
 Wp I E 2 Tryz.f249.ntmps eZ.1 ((PT.leaf.set 0 (.own 1 (l.length-1) 0 l.length none)).set 1 (.func 250 [.ptr 0 0 0])) { H:=dW [(0,box (oG c0)),(1,.arr 4 (l.length-1) (l.map aP) false false true)],n:=2,log:=[] } (J.Leaves E.P Tryz.f249 (aH 2 (enc r) [(0,box (oG c0)),(1,.arr 4 (l.length-1) (l.map aP) false false true)])):=by
 rw[show Tryz.f249.ntmps=19 from rfl];have oR:0<l.length:=bT.2 cb;simp[U]
 refine vC hρ U aq l.length (nn:=2) (λi (_:Unit)=>[(0,.own 1 (l.length-1) 0 l.length none),(1,.func 250 [.ptr 0 0 0]),(7,.int .i64 (l.length:Int)),(8,.int .i64 (i:Int))])
  (λi _=>[(0,box (oG c0)),(1,.arr 4 (l.length-1) (l.map aP) false false true)]) (λi _=>gU (λx=>(HZ x c0).getD false) (l.drop i) (i:Int)=r) ()
  (aw.auto) (by simpa using hr) ?_ ?_
 . intro _ h K;rw[bz,gU]at h;simp[dO,U];refine bO.mk (aw.auto (TL:=[]) (HL:=[(0,box (oG c0)),(1,.arr 4 (l.length-1) (l.map aP) false false true)]) (n:=2)) ?_;simp[U,<- h];exact aH.bw
 . intro i _ hi h K hK;have cj:(i:Int)<l.length:=by omega
   have cy:=bI (i:=i);have zN:(i*4) / 4=i:=by omega
   have Ms:(i*4) % 4=0:=by omega
   obtain⟨q,hq⟩:=bN.1 (b6 l[i] (az hi));rw[aK hi,gU,hq]at h;simp only[eu]at h
   cases q with
   | true =>
     rw[if_pos rfl]at h;simp[dO,U,hi,cj,zN,Ms,hc,hq];refine bO.mk (aw.auto (TL:=[(4,.int .i64 (i:Int))]) (HL:=[(0,box (oG c0)),(1,.arr 4 (l.length-1) (l.map aP) false false true)]) (n:=2)) ?_;simp[U,<- h];exact aH.bw
   | false =>
     rw[if_neg (by decide)]at h;have bc:=hK () h;simp[dO,U,hi,cj,zN,Ms,hc,hq,cy,-Int.natCast_add];exact bc _ _ (aw.auto)
def tu{c0:B3} :
 Wp I E 1 Tryz.f249.ntmps eZ.1 ((PT.leaf.set 0 .aE).set 1 (.func 250 [.ptr 0 0 0])) { H:=dW [(0,box (oG c0))],n:=1,log:=[] } (J.Leaves E.P Tryz.f249 (aH 1 (enc (-1:Int)) [(0,box (oG c0))])):=by
 rw[show Tryz.f249.ntmps=19 from rfl];simp[U]
 refine vC hρ U aq 0 (nn:=1) (λi (_:Unit)=>[(7,.int .i64 0),(8,.int .i64 0)]) (λi _=>[(0,box (oG c0))]) (λi _=>True) ()
  (aw.auto) trivial ?_ ?_
 . intro _ h K;simp[dO,U];refine bO.mk (aw.auto (TL:=[]) (HL:=[(0,box (oG c0))]) (n:=1)) ?_;simp[U];exact aH.bw
 omega
end
def uL:Valid I Pg 249 (OV 4 (some 250) (BV znS)):=Valid.rd (fo Tryz.func249 eZ.2) λX cs r h hp x X0 RL hX C q hq hc eN hx=>by
 obtain⟨l,c0,b,rfl,rfl,hF,rfl⟩:=IC h;obtain⟨⟨M,O⟩,rfl⟩:=bF hF;have UG:(EL [(250,OV 4 none (BV HZ))]).P=Pg:=rfl;have cQ:bH I (EL [(250,OV 4 none (BV HZ))]):=ag (ae (zvT hρ) aG);have cH:=λ(k:V) (RL:Z (Nat×J.Obj)) (T:PT V) (he) (hw) (hx)=>TD (sz:=4) (g:=some 250) (X0:=k) (RL:=RL) (T:=T) (cs:=[oG c0]) (x:=x) (C:=C) (q:=q) hρ cQ follows named Tryz.func249 eZ.2 he hp hw hq hc eN hx
 rcases hx with⟨rfl,rfl,AD,ue⟩|⟨es,i,rfl,cb,rfl,rfl,h5,h6,h7⟩
 . rcases hX with⟨rfl,_,_⟩|⟨es,e1,e2,e3,_⟩
   . exact cH _ [] _ rfl (tF hρ UG cQ rfl M O rfl) (.inl ⟨rfl,rfl,AD,ue⟩)
   . cases es with
     | nil =>
       have e0:l=[]:=by
        have e4:l.map aP=[]:=by injection e1
        exact qQ.1 e4
       subst e0;have e5:X0=V.aE:=e2;subst e5;exact cH _ [] _ rfl (tu hρ UG cQ) (.inl ⟨rfl,rfl,AD,ue⟩)
     |cons e es=>rw[wO]at e3;cases e3
 . have hne2:∃ e l,es=e::l:=dh cb;rcases hX with⟨e1,e2,_⟩|⟨EV,e1,e2,e3,_⟩
   . rw[jy cb]at e2;cases e2
   . have e4:es=l.map aP:=by
      have e6:l.map aP=EV:=by injection e1
      rw[jy cb]at e3
      cases EV with
      |nil=>cases e3
      | cons y m =>
        rw[jy (by simp)]at e3;have e7:(J.oO 4 es)=J.oO 4 (y::m):=by injection e3 with e8;injection e8
        have e9:es=y::m:=by unfold oO at e7;injection e7
        rw[e9,<- e6]
     have qs:l≠[]:=λe=>cb (by rw[e4,e];rfl)
     have hV:∀ i,oV i (l.map aP)=.own i (l.length-1) 0 l.length none:=λi=>by rw[uo (by rw[<- e4];exact cb)];simp
     have hO:oH 1 4 (l.map aP)=[(1,.arr 4 (l.length-1) (l.map aP) false false true)]:=by rw[jy (by rw[<- e4];exact cb)];simp[J.oO]
     have hw:=tq hρ UG cQ rfl M O qs rfl;refine cH (oV 1 es) (oH 1 4 es) _ rfl ?_ (.inr ⟨es,i,rfl,cb,rfl,rfl,h5,h6,h7⟩);subst e4;rw[hV];show Wp I _ ((1)+(oH 1 4 (l.map aP)).length) _ _ _ { H:=dW ([(0,box (oG c0))]++oH 1 4 (l.map aP)),n:=1+(oH 1 4 (l.map aP)).length,log:=[] } (J.Leaves _ _ (aH (1+(oH 1 4 (l.map aP)).length) _ ([(0,box (oG c0))]++oH 1 4 (l.map aP))));rw[hO];exact hw
theorem zpf  (U:E.P=Pg) (aq:bH I E) (hI:E.dE 249=OV 4 (some 250) (BV znS))   (hD:D.length<=100000) (hC:∀ d∈D,d.ctors.length<=100000) (C:HS) :
 aT I Pg 196 [enc D,enc m] C (enc (En D m)) C:=by
 refine fn hρ U aq Tryz.func196 N8.2 rfl (by simp) ?_ C;have b6:∀ x∈D,(HZ x ⟨m⟩).isSome=true:=λx hx=>by unfold HZ;rw[if_pos (hC x hx)];rfl
 have hF:znS D ⟨m⟩=some (K5 D m):=by
  unfold znS;rw[if_pos ⟨hD,b6⟩]
  have key:∀ (L:Z Decl) (i:Int),(∀ x∈L,x∈D)->gU (λx=>(HZ x ⟨m⟩).getD false) L i=gU (λd:Decl=>rH d.ctors m) L i:=by
   intro L
   induction L with
   |nil=>intro i _;rfl
   | cons d L ih =>
     intro i hL;have e:(HZ d ⟨m⟩).getD false=rH d.ctors m:=by unfold HZ;rw[if_pos (hC d (hL d (aD ..)))];rfl
     grind [gU,List.mem_cons_of_mem]
  exact congrArg some (key D 0 λ_ h=>h)
 unfold En;generalize K5 D m=x at hF;have hmax:(if x<0 then (0:Int)else x)=max x 0:=by omega
 simp_all
open Classical in
def zcZ(D:Z Decl)(m:Z Am):Y (Int×Bool):=if FZ D then some (En D m)else none
def Ju:J.Spec:=dH (dC zcZ)
def zt9:Valid I Pg 196 Ju:=v2 (fo Tryz.func196 N8.2) λa b r h C=>by
 unfold zcZ at h;obtain⟨M,rfl⟩:=bF h;exact zpf hρ (E:=EL [(249,OV 4 (some 250) (BV znS))]) rfl (ag (ae (uL hρ) aG)) rfl (by have:=M.1;omega) (λd hd=>by have:=(M.2 d hd).2.1;omega) C
end
def zAE(vs:Z V):Y V:=match vs with
 | [.sl [] _]=>some (.sl [] true)
 |_=>none
def GJ(S:J.Spec):J.Spec:=λvs C=>match vs with
 | [.sl [] t]=>SU zAE [.sl [] t] C
 |_=>S vs C
@[simp] def zvl   :GJ S [.sl [] t] C=some (.sl [] true,C):=(rfl)
@[simp] def ztd    {es:Z (Z V)} :GJ S [.sl (e::es) t] C=S [.sl (e::es) t] C:=(rfl)
def Valid.zoQ(hA:Valid I P f (SU zAE))(hB:Valid I P f S):Valid I P f (GJ S) where
 fn:=hA.fn
 ok:=by
  intro vs C v a8 hq;unfold GJ at hq;split at hq
  . exact hA.ok hq
  . exact hB.ok hq
 kept:=by
  intro vs C q hq;unfold GJ at hq;split at hq
  . exact hA.kept hq
  . exact hB.kept hq
def TG{w:World}(h:dV I w F μ (.sl [] t) x):∃ a c,x=.slice a 0 c:=by
 have:=h.CR
 cases this with
 |po a c t h=>exact⟨a,c,rfl⟩
 |qe es b off size c t ys M O h3 h4 h5 h6=>exact⟨_,_,rfl⟩
theorem Jv{w:World}{xs:Array Value}(h:Mq I w F μ [v] xs):∃ x,xs=#[x]/\dV I w F μ v x:=by
 obtain⟨M,O⟩:=h;obtain⟨x,hx,hr⟩:=O 0 v rfl
 grind
section
open Go.RowKit Go.Extern.Stop Go.Stop Go.Extern
theorem wu(a:Addr)(c:Nat)(w:World):Calls Pg 193 #[.slice (some a) 0 c] w λe w'=>∃ x,e=.returned (.slice x 0 0)/\w'=w.alloc (.cells #[] 48):=by
 have M:∀ w,(binOp BinOp.eql 45 (.slice (some a) 0 c) (.slice none 0 0)).run Pg w=.ok (.bool false) w:=λw=>by kernel_rfl
 go_enter Tryz.func193,Tryz.ntmps193
 go_wp2
 go_ret
 simp_all
theorem wy(c:Nat)(w:World):Calls Pg 193 #[.slice none 0 c] w λe w'=>∃ x,e=.returned (.slice x 0 0)/\w'=w:=by
 have M:∀ w,(binOp BinOp.eql 45 (.slice none 0 c) (.slice none 0 0)).run Pg w=.ok (.bool true) w:=λw=>by kernel_rfl
 go_enter Tryz.func193,Tryz.ntmps193
 go_wp2
 go_ret
 simp_all
end
def xN :Valid I Pg 193 (SU zAE):=Valid.out (fo Tryz.func193 kX.2) λvs v h w F μ xs hA _=>by
 unfold zAE at h;split at h
 . cases h;obtain⟨x,rfl,hx⟩:=Jv hA;obtain⟨a,c,rfl⟩:=TG hx
   cases a with
   | none =>
     refine(wy c w).mono ?_;rintro e w' ⟨x,rfl,rfl⟩;exact⟨_,rfl,.po _ _ _ (λ_=>rfl),⟨rfl,rfl,rfl⟩,af _,λ_ _=>rfl⟩
   | some a =>
     refine(wu a c w).mono ?_;rintro e w' ⟨x,rfl,rfl⟩;refine⟨_,rfl,.po _ _ _ (λ_=>rfl),?_,?_,?_⟩
     . exact⟨rfl,rfl,rfl⟩
     . simp
     . intro b hb;show (w.heap.push _)[b]?=_;rw[nG,if_neg (Nat.ne_of_lt hb)]
 . cases h
theorem xM(hρ:J.Good I):Valid I Pg 193 (sj (Me 11)):=by
 refine Valid.DG (fo Tryz.func193 kX.2) λvs C D h=>?_
 obtain⟨es,tg,cb,hl,gA,hac,rfl,hg,b4⟩:=Vb h;refine em hρ (E:=EL []) rfl (ag aG) Tryz.func193 kX.2 rfl hg ?_ b4;show Wp I _ 0 _ _ _ { H:=dW [],n:=0,log:=[] } (J.Leaves _ _ (aH 0 (.own 0 0 0 es.length none) [(0,.arr 11 0 es false false true)]));have b8:bj 11 es=true:=by rw[lI];exactλe he=>(gA e he).1
 have sg:es.length*152<=1048576:=aO (aN 152 hl) (by decide);have Ax:es.length*11<=1048576:=aO (aN 11 hl) (by decide);have qs:¬ es.length=0:=λh=>cb (dM h)
 rcases es with _|⟨e0,es⟩
 . grind
 rw[aX]at sg Ax;have Ph:∀ t,RN Pg .eql 45 (.sl (e0::es) t) .aE=some (.bool false):=λt=>by rfl
 have pZ:(EL []).P=Pg:=rfl;have zoo:Jz e0=true/\kS es=true:=by simpa using hac
 cases tg<;>simp[b8,sg,Ph,pZ,zoo.1,zoo.2]
 all_goals exact aH.Za (λk=>if k=0 then 5 else k) rfl rfl ⟨rfl,rfl⟩ (by
  intro p hp;simp only[ay]at hp;subst hp;have e1:(e0::es).all (λe=>e.all V.bM)=true:=aj.2 λe he=>(gA e he).2
  have e3:∀ π,(J.Obj.arr 11 0 (e0::es) false false true).cq π=.arr 11 0 (e0::es) false false true:=λπ=>by
   show J.Obj.arr 11 0 ((e0::es).map λe=>e.map (V.jl π)) false false true=_
   grind [Cc,V.jP,List.all_eq_true]
  refine⟨e1,?_⟩;rw[e3]
  simp)
def il:J.Spec:=GJ (sj (Me 11))
def yX(hρ:J.Good I):Valid I Pg 193 il:=Valid.zoQ xN (xM hρ)
section
open Go.RowKit Go.Extern.Stop Go.Stop Go.Extern
theorem yY(a:Addr)(c:Nat)(w:World):Calls Pg 198 #[.slice (some a) 0 c] w λe w'=>∃ x,e=.returned (.slice x 0 0)/\w'=w.alloc (.cells #[] 9):=by
 have M:∀ w,(binOp BinOp.eql 52 (.slice (some a) 0 c) (.slice none 0 0)).run Pg w=.ok (.bool false) w:=λw=>by kernel_rfl
 go_enter Tryz.func198,Tryz.ntmps198
 go_wp2
 go_ret
 simp_all
theorem yZ(c:Nat)(w:World):Calls Pg 198 #[.slice none 0 c] w λe w'=>∃ x,e=.returned (.slice x 0 0)/\w'=w:=by
 have M:∀ w,(binOp BinOp.eql 52 (.slice none 0 c) (.slice none 0 0)).run Pg w=.ok (.bool true) w:=λw=>by kernel_rfl
 go_enter Tryz.func198,Tryz.ntmps198
 go_wp2
 go_ret
 simp_all
end
def Bd :Valid I Pg 198 (SU zAE):=Valid.out (fo Tryz.func198 ny.2) λvs v h w F μ xs hA _=>by
 unfold zAE at h;split at h
 . cases h;obtain⟨x,rfl,hx⟩:=Jv hA;obtain⟨a,c,rfl⟩:=TG hx
   cases a with
   | none =>
     refine(yZ c w).mono ?_;rintro e w' ⟨x,rfl,rfl⟩;exact⟨_,rfl,.po _ _ _ (λ_=>rfl),⟨rfl,rfl,rfl⟩,af _,λ_ _=>rfl⟩
   | some a =>
     refine(yY a c w).mono ?_;rintro e w' ⟨x,rfl,rfl⟩;refine⟨_,rfl,.po _ _ _ (λ_=>rfl),?_,?_,?_⟩
     . exact⟨rfl,rfl,rfl⟩
     . simp
     . intro b hb;show (w.heap.push _)[b]?=_;rw[nG,if_neg (Nat.ne_of_lt hb)]
 . cases h
theorem Bc(hρ:J.Good I):Valid I Pg 198 (sj (Me 1)):=by
 refine Valid.DG (fo Tryz.func198 ny.2) λvs C D h=>?_
 obtain⟨es,tg,cb,hl,gA,hac,rfl,hg,b4⟩:=Vb h;refine em hρ (E:=EL []) rfl (ag aG) Tryz.func198 ny.2 rfl hg ?_ b4;show Wp I _ 0 _ _ _ { H:=dW [],n:=0,log:=[] } (J.Leaves _ _ (aH 0 (.own 0 0 0 es.length none) [(0,.arr 1 0 es false false true)]));have b8:bj 1 es=true:=by rw[lI];exactλe he=>(gA e he).1
 have sg:es.length*16<=1048576:=aO (aN 16 hl) (by decide);have Ax:es.length*1<=1048576:=aO (aN 1 hl) (by decide);have qs:¬ es.length=0:=λh=>cb (dM h)
 rcases es with _|⟨e0,es⟩
 . grind
 rw[aX]at sg Ax;have Ph:∀ t,RN Pg .eql 52 (.sl (e0::es) t) .aE=some (.bool false):=λt=>by rfl
 have pZ:(EL []).P=Pg:=rfl;have zoo:Jz e0=true/\kS es=true:=by simpa using hac
 cases tg<;>simp[b8,sg,Ph,pZ,zoo.1,zoo.2]
 all_goals exact aH.Za (λk=>if k=0 then 5 else k) rfl rfl ⟨rfl,rfl⟩ (by
  intro p hp;simp only[ay]at hp;subst hp;have e1:(e0::es).all (λe=>e.all V.bM)=true:=aj.2 λe he=>(gA e he).2
  have e3:∀ π,(J.Obj.arr 1 0 (e0::es) false false true).cq π=.arr 1 0 (e0::es) false false true:=λπ=>by
   show J.Obj.arr 1 0 ((e0::es).map λe=>e.map (V.jl π)) false false true=_
   grind [Cc,V.jP,List.all_eq_true]
  refine⟨e1,?_⟩;rw[e3]
  simp)
def gp:J.Spec:=GJ (sj (Me 1))
def BQ(hρ:J.Good I):Valid I Pg 198 gp:=Valid.zoQ Bd (Bc hρ)
end Go.Proofs.YtfloillkpbhhhaaGreat
