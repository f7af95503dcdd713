import Derived.Test.YtfloillkpbhhhaaGreatNK3
import Derived.Test.YtfloillkpbhhhaaGreatJK11
import Derived.Test.YtfloillkpbhhhaaGreatNK2
import Derived.Test.YtfloillkpbhhhaaGreatJK9
import Derived.Test.YtfloillkpbhhhaaGreatJK10
set_option linter.all false
noncomputable section
namespace Go.Proofs.YtfloillkpbhhhaaGreat
open Go.J
open Go.J.bo (enc)
set_option maxRecDepth 100000
set_option maxHeartbeats 4000000
variable {a:Am}{F:Am->Y Bool}{b r:Bool}{dd:Decl}{Q:Ex->PT V->HS->Prop}{C:HS}{k:IntKind}{d g i m:Nat}{A:Nat->Bool}{π:Nat->Nat}{T:PT V}{c:Scheme}{t:Tp}{α:Type}{v:V}{e:Xp}{N cI:Z (Z Nat)}{X cq:Z Am}{D:Z Decl}{l:Z Entry}{m7:Z G}{b6:Z Int}{n s:Z Nat}{vs:Z V}{cl cS:Z Xp}
def W0(D:Z Decl)(l:Z Am):Prop:=∃ (k:Nat) (d:Decl),D[k]?=some d/\Gh D l=(k:Int)/\l.length=d.ctors.length/\(∀ (i:Nat) (a:Am) (c:Ctor),l[i]?=some a->d.ctors[i]?=some c->a.vars.length=c.fields.length/\a.vars.Nodup)/\∀ a∈l,(zQ D a.dA 0).isSome=true
def zOM(D:Z Decl)(e:Xp):Prop:=(e.kind=2->(zQ D e.name 0).isSome=true)/\(e.kind=8->W0 D e.b8)
inductive Wf (D:List Decl):Xp->Prop
 |mk {e:Xp}:E5 e->zOM D e->(∀ x∈BX e,Wf D x)->Wf D e
theorem Wf.L5(h:Wf D e):E5 e:=by cases h;assumption
theorem Wf.dw(h:Wf D e):zOM D e:=by cases h;assumption
theorem Wf.ch(h:Wf D e):∀ x∈BX e,Wf D x:=by cases h;assumption
def VN(h:(zQ D n 0).isSome=true):∃ i k:Nat,DU D n=⟨(i:Int),(k:Int),true⟩:=by
 let⟨⟨i,k⟩,hq⟩:=bQ.1 h;exact⟨i,k,by unfold DU;rw[hq]⟩
section
variable {I:Nat->Value}(hρ:J.Good I)
include hρ
section
variable {E:Env}(U:E.P=Pg)(aq:bK I E)
include U aq
theorem zjU(Oz:E.dA 120=rD){k:Nat}{am:Am}(eV:am.vars.Nodup)(hv:am.vars.length<=90){sz:Nat}(cd:sz=94)
 (hT:aw 0 T C (dP [(0,.sl (D.map aT) false),(4,.ptr 1 0 0),(10,.int .i64 (k:Int)),(13,.ptr 2 0 0),(50,.sl (X.map dW) false),(51,.int .i64 (X.length:Int)),(52,.int .i64 (i:Int)),(75,.sl (am.vars.map b5) false),(76,.int .i64 (am.vars.length:Int)),(77,.int .i64 ((0:Nat):Int))]) { H:=dP [(1,.arr 2 0 [[.int .i64 0,.int .i64 0]] true false false),(2,box (dW am))],n:=3,log:=[] })
 (hQ:Q (.exit 4) (dP [(0,.sl (D.map aT) false),(4,.ptr 1 0 0),(10,.int .i64 (k:Int)),(50,.sl (X.map dW) false),(51,.int .i64 (X.length:Int)),(52,.int .i64 (i:Int))]) { H:=dP [(1,.arr 2 0 [[.int .i64 0,.int .i64 0]] true false false)],n:=3,log:=[] }):Ls I E 0 sz (.loop wE) T C Q:=by
 subst cd;refine rA hρ U aq am.vars.length (nn:=3) (λj (_:Unit)=>[(0,.sl (D.map aT) false),(4,.ptr 1 0 0),(10,.int .i64 (k:Int)),(13,.ptr 2 0 0),(50,.sl (X.map dW) false),(51,.int .i64 (X.length:Int)),(52,.int .i64 (i:Int)),(75,.sl (am.vars.map b5) false),(76,.int .i64 (am.vars.length:Int)),(77,.int .i64 (j:Int))]) (λj _=>[(1,.arr 2 0 [[.int .i64 0,.int .i64 0]] true false false),(2,box (dW am))]) (λj _=>True) () hT trivial ?_ ?_;intro _ _ K;simp[wE,U];exact bM.mk (aw.auto) hQ;intro j _ hj _ K hK;have gO:(j:Int)<am.vars.length:=by omega
 have rB:j<=am.vars.length:=by omega
 have cr:=bG (i:=j);have sf:(am.vars.take j).length<=1000000:=by rw[dR];omega
 have aE:=hK () trivial;obtain⟨v,OF⟩:∃ v,am.vars[j]=v:=⟨_,rfl⟩;have eE:v ∉ am.vars.take j:=by grind [List.mem_iff_getElem,List.length_take,List.getElem_inj]
 have VG:decide (v∈am.vars.take j)=false:=decide_eq_false eE;clear eV eE;obtain⟨ap,ac,av,⟨bk,bp,bn,bm,OY,O1,⟨Lk,Lo,K2,K1,Ln⟩⟩⟩:=am;simp only[Am.AQ]at hj gO rB sf VG OF;obtain⟨tv,D1⟩:∃ tv,av.take j=tv:=⟨_,rfl⟩;have zFL:List.take j (av.map b5)=tv.map b5:=by rw[<- qB,D1]
 rw[D1]at sf VG;simp[wE,U,ik,hj,gO,rB,OF,xE,Cy,bounds,NZ,fE,Ab,zFL,Oz,rD,sf,VG,cr,-List.map_take,-Int.natCast_add];exact aE _ _ (aw.auto (hH:=by simp[ik]))
def zsI(v8:E.dA 87=Cq)(T5:E.dA 196=J6)(Oz:E.dA 120=rD)(hD:Gu D)(hX:e.b8.length<=1000)(Wg:∀ a∈e.b8,a.vars.length<=90)(hw:W0 D e.b8)(C:HS) :
 aS I Pg 121 [enc D,enc e] C (Fv true) C:=by
 refine fn hρ U aq Tryz.func121 qR.2 rfl (by simp) ?_ C;have mu:D.length<=100000/\∀ d∈D,d.ctors.length<=100000:=⟨by have:=hD.1;omega,λd hd=>by have:=(hD.2 d hd).2.1;omega⟩;let⟨k,dd,hk,hai,hlen,zOi,uv⟩:=hw;let⟨kA,jz⟩:=aM.1 hk
 have j7:zd6 D e.b8=some ((k:Int),true):=by
  have:Cs D e.b8=((k:Int),true):=by unfold Cs;rw[hai];simp
  rw[<- this];exact if_pos hD
 have q1:k*4 / 4=k:=by omega
 have q2:(k*4+3) / 4=k:=by omega
 let⟨ek,ep,en,em,cS,X,⟨m8,mL,m9,nq,m7⟩⟩:=e;simp only[Xp.lh]at hX Wg j7 hlen zOi uv;simp[U,bq];refine rA hρ U aq X.length (nn:=2) (λi (_:Unit)=>[(0,.sl (D.map aT) false),(3,.ptr 0 0 0),(4,.ptr 1 0 0),(17,.sl (X.map dW) false),(18,.int .i64 (X.length:Int)),(19,.int .i64 (i:Int))]) (λi _=>[(0,.arr 11 0 [[.int .i64 ek,.int .i64 ep,.str en,.int .i64 em,.sl (cS.map bP) false,.sl (X.map dW) false,.int .i64 m8,.str mL,.int .i64 m9,.int .i64 nq,.sl (m7.map aA) false]] true false false),(1,.arr 2 0 [[.int .i64 0,.int .i64 0]] true false false)]) (λi _=>True) () (aw.auto) trivial ?_ ?_;intro _ _ K;simp[Cu,U];refine bM.mk (aw.auto (TL:=[(0,.sl (D.map aT) false),(3,.ptr 0 0 0),(4,.ptr 1 0 0)]) (HL:=[(0,.arr 11 0 [[.int .i64 ek,.int .i64 ep,.str en,.int .i64 em,.sl (cS.map bP) false,.sl (X.map dW) false,.int .i64 m8,.str mL,.int .i64 m9,.int .i64 nq,.sl (m7.map aA) false]] true false false),(1,.arr 2 0 [[.int .i64 0,.int .i64 0]] true false false)]) (n:=2)) ?_;simp[U,T5,J6,j7];refine rA hρ U aq X.length (nn:=3) (λi (_:Unit)=>[(0,.sl (D.map aT) false),(4,.ptr 1 0 0),(10,.int .i64 (k:Int)),(50,.sl (X.map dW) false),(51,.int .i64 (X.length:Int)),(52,.int .i64 (i:Int))]) (λi _=>[(1,.arr 2 0 [[.int .i64 0,.int .i64 0]] true false false)]) (λi _=>True) () (aw.auto) trivial ?_ ?_;intro _ _ K;simp[wD,U];refine bM.mk (aw.auto (TL:=[(4,.ptr 1 0 0)]) (HL:=[(1,.arr 2 0 [[.int .i64 0,.int .i64 0]] true false false)]) (n:=3)) ?_;simp[U];intro i _ hi _ K hK;have cm:(i:Int)<X.length:=by omega
 have cr:=bG (i:=i);have m1:i*14 / 14=i:=by omega
 have hic:i<dd.ctors.length:=by omega
 have zF5:(i:Int)<dd.ctors.length:=by omega
 have m3:i*3 / 3=i:=by omega
 have m4:(i*3+2) / 3=i:=by omega
 have aE:=hK () trivial;have zOh:=Wg _ (ax hi);obtain⟨am,GC⟩:∃ am,X[i]=am:=⟨_,rfl⟩;obtain⟨cc,ua⟩:∃ cc,dd.ctors[i]=cc:=⟨_,rfl⟩;let⟨M,O⟩:=zOi i am cc (by rw[az hi,GC]) (by rw[az hic,ua]);rw[GC]at zOh;have wx:(am.vars.length:Int)=(cc.fields.length:Int):=by omega
 have Nd:∀ h,dd.ctors[i]'h=cc:=λ_=>ua;have Qo:=λT C Q=>zjU hρ U aq Oz (D:=D) (k:=k) (i:=i) (X:=X) (am:=am) O zOh (sz:=94) rfl (T:=T) (C:=C) (Q:=Q);let⟨ap,ac,av,⟨bk,bp,bn,bm,OY,O1,⟨Lk,Lo,K2,K1,Ln⟩⟩⟩:=am;cases dd;simp only[Am.AQ]at M wx;simp only at hic zF5 Nd;simp[wD,U,hi,cm,m1,GC,ik,kA,q1,q2,jz,aT,hic,zF5,m3,m4,Nd,iK,M,wx];refine Qo _ _ _ (aw.auto (by simp[M]) (by simp[ik])) ?_;simp[wD,U,cr,-Int.natCast_add];exact aE _ _ (aw.auto);intro i _ hi _ K hK;have cm:(i:Int)<X.length:=by omega
 have cr:=bG (i:=i);have m1:i*14 / 14=i:=by omega
 have aE:=hK () trivial;obtain⟨am,GC⟩:∃ am,X[i]=am:=⟨_,rfl⟩;have To:=uv _ (ax hi);rw[GC]at To;let⟨fi,fk,CN⟩:=VN To;have AI:findF D am.dA=some ⟨(fi:Int),(fk:Int),true⟩:=by rw[<- CN];exact if_pos mu
 clear To CN;let⟨ap,ac,av,⟨bk,bp,bn,bm,OY,O1,⟨Lk,Lo,K2,K1,Ln⟩⟩⟩:=am;simp only[Am.JW]at AI;simp[Cu,U,hi,cm,m1,GC,ik,v8,Cq,AI,cr,-Int.natCast_add];exact aE _ _ (aw.auto)
end
open Classical in
def ze5(vs:Z V):Y V:=match vs with
 | [a,b]=>ob (bo.dec a:Y (Z Decl)) λD=>ob (bo.dec b:Y Xp) λe=>if Gu D/\e.b8.length<=1000/\(∀ a∈e.b8,a.vars.length<=90)/\W0 D e.b8 then some (Fv true)else none
 |_=>none
theorem zsJ(M:Gu D)(O:e.b8.length<=1000)(h3:∀ a∈e.b8,a.vars.length<=90)(h4:W0 D e.b8):ze5 [enc D,enc e]=some (Fv true):=by
 unfold ze5;simp_all
def zxd:Valid I Pg 121 (dC ze5):=Valid.dC (fo Tryz.func121 qR.2) λvs v h C=>by
 unfold ze5 at h;split at h;simp only[aC]at h;let⟨D,hD,e,he,h⟩:=h;obtain⟨⟨M,O,h3,h4⟩,rfl⟩:=bF h;rw[bo.bB _ _ hD,bo.bB _ _ he];exact zsI hρ (E:=EL [(87,Cq),(196,J6),(120,rD)]) rfl (aj (ae (zhp hρ) (ae (zvL hρ) (ae (Zq hρ) aH)))) rfl rfl rfl M O h3 h4 C;cases h
end
open Classical in
def Fh(d:Nat)(vs:Z V):Y V:=match vs with
 | [a,b,c]=>ob (bo.dec a:Y (Z Decl)) λD=>ob (bo.dec b:Y (Z (Z Nat))) λcI=>ob (bo.dec c:Y Xp) λe=>if Gu D/\cI.length+4*d<=900/\e.depth<=d/\Wf D e then some (Fv (Cz d cI e))else none
 |_=>none
theorem XY(M:Gu D)(O:cI.length+4*d<=900)(h3:e.depth<=d)(h4:Wf D e):Fh d [enc D,enc cI,enc e]=some (Fv (Cz d cI e)):=by
 unfold Fh;simp_all
def UA(h:Fh d vs=some v):∃ (D:Z Decl) (cI:Z (Z Nat)) (e:Xp),vs=[enc D,enc cI,enc e]/\Gu D/\cI.length+4*d<=900/\e.depth<=d/\Wf D e/\v=Fv (Cz d cI e):=by
 unfold Fh at h;split at h;simp only[aC]at h;let⟨D,hD,cI,hM,e,he,h⟩:=h;obtain⟨⟨M,O,h3,h4⟩,rfl⟩:=bF h;exact⟨D,cI,e,by rw[bo.bB _ _ hD,bo.bB _ _ hM,bo.bB _ _ he],M,O,h3,h4,rfl⟩;cases h
section
variable {I:Nat->Value}(hρ:J.Good I)
include hρ
section
variable {E:Env}(U:E.P=Pg)(aq:bK I E)
include U aq
def zsH(zJq:E.dA 124=dC (cB Ww))(zJd:E.dA 123=dC (cB zbJ))(zJp:E.dA 59=dC (Fh d))(hD:Gu D)(hM:cI.length+4*(d+1)<=900){ek em m8 m9 nq:Int}{en mL:Z Nat}(hv:E5 (.mk ek 0 en em cS cq (.mk m8 mL m9 nq m7)))(ew:cl=BX (.mk ek 0 en em cS cq (.mk m8 mL m9 nq m7)))
 (Nm:∀ x∈cl,x.depth<=d) (hwf:∀ x∈cl,Wf D x)  (hr:Mq (Cz d) cI (.mk ek 0 en em cS cq (.mk m8 mL m9 nq m7)) 0 cl=r) {sz:Nat} (cd:sz=85)   
 (hT:aw 0 T C (dP [(0,.sl (D.map aT) false),(1,.sl (cI.map b5) false),(5,.ptr 0 0 0),(6,.ptr 1 0 0),(64,.sl (cl.map bP) false),(65,.int .i64 (cl.length:Int)),(66,.int .i64 ((0:Nat):Int))]) { H:=dP [(0,.arr 11 0 [[.int .i64 ek,.int .i64 0,.str en,.int .i64 em,.sl (cS.map bP) false,.sl (cq.map dW) false,.int .i64 m8,.str mL,.int .i64 m9,.int .i64 nq,.sl (m7.map aA) false]] true false false),(1,.arr 2 0 [[.int .i64 0,.int .i64 0]] true false false)],n:=2,log:=[] })
 (GB:r=true->Q (.exit 1) (dP [(6,.ptr 1 0 0)]) { H:=dP [(1,.arr 2 0 [[.int .i64 0,.int .i64 0]] true false false)],n:=2,log:=[] })
 (Hj:r=false->Q .ret (dP [(6,.ptr 1 0 0)]) { H:=dP [(1,.arr 2 0 [[.int .i64 9,.int .i64 0]] true false false)],n:=2,log:=[] }):Ls I E 0 sz (.loop xA) T C Q:=by
 subst cd;have hlen:=yu hv;have zOn:cl.length=cS.length+cq.length:=by rw[ew];unfold BX;simp
 simp only[Xp.kL,Xp.lh]at hlen;refine rA hρ U aq cl.length (nn:=2) (λi (_:Unit)=>[(0,.sl (D.map aT) false),(1,.sl (cI.map b5) false),(5,.ptr 0 0 0),(6,.ptr 1 0 0),(64,.sl (cl.map bP) false),(65,.int .i64 (cl.length:Int)),(66,.int .i64 (i:Int))]) (λi _=>[(0,.arr 11 0 [[.int .i64 ek,.int .i64 0,.str en,.int .i64 em,.sl (cS.map bP) false,.sl (cq.map dW) false,.int .i64 m8,.str mL,.int .i64 m9,.int .i64 nq,.sl (m7.map aA) false]] true false false),(1,.arr 2 0 [[.int .i64 0,.int .i64 0]] true false false)]) (λi _=>Mq (Cz d) cI (.mk ek 0 en em cS cq (.mk m8 mL m9 nq m7)) i (cl.drop i)=r) () hT (by simpa using hr) ?_ ?_;intro _ h K;rw[bz,Mq]at h;have cM:=GB h.symm;simp[xA,U];exact bM.mk (aw.auto) cM;intro i _ hi h K hK;have cm:(i:Int)<cl.length:=by omega
 have cr:=bG (i:=i);have m1:i*11 / 11=i:=by omega
 rw[aG hi,Mq]at h;have zMe:=Nm _ (ax hi);have hwx:=hwf _ (ax hi);obtain⟨x,W⟩:∃ x,cl[i]=x:=⟨_,rfl⟩;rw[W]at h zMe hwx;have pH:=Ht hv i;have zMi:Ww (.mk ek 0 en em cS cq (.mk m8 mL m9 nq m7)) (i:Int)=some (fO (.mk ek 0 en em cS cq (.mk m8 mL m9 nq m7)) i):=by refine if_pos ⟨by omega,?_,?_,?_⟩;simp only[Xp.kL,Xp.lh];omega;simp only[Xp.kL];omega;simp only[Xp.lh];omega
 obtain⟨B,hB⟩:∃ B,fO (.mk ek 0 en em cS cq (.mk m8 mL m9 nq m7)) i=B:=⟨_,rfl⟩;rw[hB]at h pH zMi;have n9:zbJ cI B=some (cI++B):=if_pos ⟨by omega,by omega⟩;have w6:=XY (d:=d) (cI:=cI++B) (e:=x) hD (by rw[aR];omega) zMe hwx;let⟨xk,xp,xn,xm,zvx,zvy,⟨zNq,zNo,zNr,zNs,zNp⟩⟩:=x
 cases hq:Cz d (cI++B) (.mk xk xp xn xm zvx zvy (.mk zNq zNo zNr zNs zNp))with
 | true =>rw[hq]at w6 h;rw[gG]at h;have aE:=hK () h;simp[bq]at w6;simp[xA,U,hi,cm,m1,W,bq,zJq,zMi,zJd,n9,zJp,w6,cr,-Int.natCast_add];exact aE _ _ (aw.auto)
 | false =>
   rw[hq]at w6 h;rw[sK]at h;have cM:=Hj h.symm;simp[bq]at w6;simp[xA,U,hi,cm,m1,W,bq,zJq,zMi,zJd,n9,zJp,w6];exact bM.mk (aw.auto) cM
def zxU  (Oz:E.dA 120=rD) (v8:E.dA 87=Cq) (hAn:E.dA 121=dC ze5) (Vc:E.dA 114=dC (cz WD)) (zJq:E.dA 124=dC (cB Ww)) (zJd:E.dA 123=dC (cB zbJ)) (zJp:E.dA 59=dC (Fh d))    (hD:Gu D) (hM:cI.length+4*(d+1)<=900) (Nm:e.depth<=d+1) (hw:Wf D e) (C:HS) :
 aS I Pg 59 [enc D,enc cI,enc e] C (Fv (Cz (d+1) cI e)) C:=by
 refine fn hρ U aq Tryz.func59 CX.2 rfl (by simp) ?_ C;have mu:D.length<=100000/\∀ d∈D,d.ctors.length<=100000:=⟨by have:=hD.1;omega,λd hd=>by have:=(hD.2 d hd).2.1;omega⟩;have lE:=hw.L5;have hlen:=yu lE
 have sr:=λcl ew M O r hr T C Q=>zsH hρ U aq (d:=d) zJq zJd zJp hD hM (ek:=e.kind) (em:=e.num) (en:=e.name) (cS:=e.kids) (cq:=e.b8) (m8:=e.type.kind) (mL:=e.type.name) (m9:=e.type.id) (nq:=e.type.home) (m7:=e.type.args) (by
  have e1:e.pos=0:=lE.1;have:Xp.mk e.kind 0 e.name e.num e.kids e.b8 (.mk e.type.kind e.type.name e.type.id e.type.home e.type.args)=e:=by rw[<- e1,G.eta,Xp.eta]
  rw[this];exact lE) (cl:=cl) ew M O (r:=r) hr (sz:=85) rfl (T:=T) (C:=C) (Q:=Q)
 have e0:Xp.mk e.kind 0 e.name e.num e.kids e.b8 (.mk e.type.kind e.type.name e.type.id e.type.home e.type.args)=e:=by rw[<- lE.1,G.eta,Xp.eta]
 have JH:=sr (BX e) (by rw[e0]) (λx W=>by have:=F9 W;omega) hw.ch _ (by rw[e0]);clear sr e0;have CP:WD e=some (BX e):=if_pos ⟨by omega,by omega,hlen.2.2⟩;have hsc:Cz (d+1) cI e=((if e.kind=1 then decide (e.name∈cI)else true)&&Mq (Cz d) cI e 0 (BX e)):=by rw[Cz]
 rw[hsc];have zJl:cI.length<=1000000:=by omega
 have zOq:e.kind=8->ze5 [enc D,enc e]=some (Fv true):=λh8=>by have zQs:=hw.dw.2 h8;exact zsJ hρ hD (by omega) (λa ha=>by have:=(lE.2.2.2.2 a ha).2.2.1;omega) zQs
 have hfn:e.kind=2->∃ i k:Nat,findF D e.name=some ⟨(i:Int),(k:Int),true⟩:=λO=>by let⟨i,k,CN⟩:=VN (hw.dw.1 O);exact⟨i,k,by rw[<- CN];exact if_pos mu⟩
 have zy9:e.kind=1->BX e=[]:=λM=>by
  rcases lE.2.2.2.1 with⟨_,_,k1,k2⟩|⟨h,_⟩|⟨h,_⟩|⟨h,_⟩|⟨h,_⟩;unfold BX;rw[k1,k2];rfl
  all_goals omega
 have rp:e.kind=1\/e.kind=2\/e.kind=4\/e.kind=5\/e.kind=8:=by rcases lE.2.2.2.1 with⟨h,_⟩|⟨h,_⟩|⟨h,_⟩|⟨h,_⟩|⟨h,_⟩;exact .inl h;exact .inr (.inl h);exact .inr (.inr (.inl h));exact .inr (.inr (.inr (.inl h)));exact .inr (.inr (.inr (.inr h)))
 have qe:e.pos=0:=lE.1;clear lE hlen hw hsc mu;obtain⟨cl,ew⟩:∃ cl,BX e=cl:=⟨_,rfl⟩;rw[ew]at JH CP zy9 ⊢;obtain⟨rr,hrr⟩:∃ rr,Mq (Cz d) cI e 0 cl=rr:=⟨_,rfl⟩;rw[hrr]at JH ⊢;clear ew;obtain⟨q0,O2⟩:∃ q0,(if e.kind=1 then decide (e.name∈cI)else true)=q0:=⟨_,rfl⟩;rw[O2];let⟨ek,ep,en,em,cS,cq,⟨m8,mL,m9,nq,m7⟩⟩:=e;simp only[Xp.fH,Xp.pos_mk,Xp.j4,Xp.U2,Xp.kL,Xp.lh,Xp.Nu,G.fH,G.j4,G.wP,G.Kv,G.iT]at JH rp qe zy9 hfn zOq ⊢;subst qe;rcases rp with rfl|rfl|rfl|rfl|rfl;obtain rfl:=zy9 rfl;have hrt:rr=true:=by rw[<- hrr];rfl
 subst hrt;have hbb:decide (en∈cI)=q0:=by rw[<- O2];rfl
 rw[fT]
 cases q0 with
 | true =>simp[U,bq,Oz,rD,zJl,hbb,Vc,CP];refine JH _ _ _ (aw.auto) ?_ ?_;intro _;simp[U];intro h;cases h
 | false =>simp[U,bq,Oz,rD,zJl,hbb,Vc,CP]
 let⟨fi,fk,AI⟩:=hfn rfl;obtain rfl:q0=true:=by rw[<- O2];rfl
 rw[gG];simp[U,bq,v8,Cq,AI,Vc,CP];refine JH _ _ _ (aw.auto) ?_ ?_;rintro rfl;simp[U];rintro rfl;simp[U];obtain rfl:q0=true:=by rw[<- O2];rfl
 rw[gG];simp[U,bq,Vc,CP];refine JH _ _ _ (aw.auto) ?_ ?_;rintro rfl;simp[U];rintro rfl;simp[U];obtain rfl:q0=true:=by rw[<- O2];rfl
 rw[gG];simp[U,bq,Vc,CP];refine JH _ _ _ (aw.auto) ?_ ?_;rintro rfl;simp[U];rintro rfl;simp[U];have kx:=zOq rfl;simp[bq]at kx;obtain rfl:q0=true:=by rw[<- O2];rfl
 rw[gG];simp[U,bq,hAn,kx,Vc,CP];refine JH _ _ _ (aw.auto) ?_ ?_;rintro rfl;simp[U];rintro rfl;simp[U]
end
def Ru:∀ d,Valid I Pg 59 (dC (Fh d))
 | 0=>Valid.dC (fo Tryz.func59 CX.2) λvs v h C=>by obtain⟨D,cI,e,rfl,M,O,h3,h4,rfl⟩:=UA h;have:=Xp.iY e;omega
 | d + 1=>Valid.dC (fo Tryz.func59 CX.2) λvs v h C=>by
   obtain⟨D,cI,e,rfl,M,O,h3,h4,rfl⟩:=UA h
   exact zxU hρ (E:=EL [(120,rD),(87,Cq),(121,dC ze5),(114,dC (cz WD)),(124,dC (cB Ww)),(123,dC (cB zbJ)),(59,dC (Fh d))]) rfl
    (aj (ae (Zq hρ) (ae (zhp hρ) (ae (zxd hρ) (ae (XN hρ) (ae (zmZ hρ) (ae (zDx hρ) (ae (Ru d) aH)))))))) rfl rfl rfl rfl rfl rfl rfl M O h3 h4 C
end
@[simp] def zN4 :(V.int k 2).nat?=some 2:=(rfl)
@[simp] def zN3 :(V.int k 3).nat?=some 3:=(rfl)
@[simp] def zN2 :(V.int k 4).nat?=some 4:=(rfl)
@[simp] def zN1 :(V.int k 5).nat?=some 5:=(rfl)
@[simp] def zN0 :(V.int k 6).nat?=some 6:=(rfl)
@[simp] def zNZ :(V.int k 7).nat?=some 7:=(rfl)
section
variable {I:Nat->Value}(hρ:J.Good I){E:Env}(U:E.P=Pg)(aq:bK I E)
include hρ U aq
def UL{t:G}(C:HS):aS I Pg 35 [enc t] C (enc (mono t)) C:=by
 refine fn hρ U aq Tryz.func35 Po.2 rfl (by simp) ?_ C;simp[U,mono]
def UK(hl:l.length<=1000)(C:HS):aS I Pg 101 [enc l,enc n,enc c] C (enc (l++[⟨n,c⟩])) C:=by
 refine fn hρ U aq Tryz.func101 Pn.2 rfl (by simp) ?_ C;rcases l with _|⟨x,l⟩;simp[U];have jx:l.length+1<=1000:=hl;have k1:(l.length+1)*88<=1048576:=aO (aQ 88 jx) (by decide);have k2:(l.length+1+1)*88<=1048576:=aO (aQ 88 (Nat.succ_le_succ jx)) (by decide);simp[U,k1,k2,bf]
def GU(hN:E.dA 34=IQ (Jf Cn))(ht:t.ok)(C:HS)(id:Nat)(hid:id<C.n)(hg:C.H.get id=some (box (iI.cells t))) :
 aS I Pg 37 [.ptr id 0 0] C (enc (varName t)) (C.wr id (box (iI.cells (t.next 8).1))):=by
 unfold varName;have hF:Cn t 8=some (t.next 8):=if_pos ⟨ht,by omega,by omega⟩;have mc:=yL t 8;have mw:=AV t (n:=8) (by omega);rcases hq:t.next 8 with⟨t1,k⟩;simp only[hq]at hF mc mw ⊢;obtain⟨j,rfl⟩:=bE mc;have hj:j=0\/j=1\/j=2\/j=3\/j=4\/j=5\/j=6\/j=7:=by omega
 clear mc mw hq;rw[bO]
 rcases hj with rfl|rfl|rfl|rfl|rfl|rfl|rfl|rfl <;>
 (refine st hρ U aq Tryz.func37 BH.2 rfl (by simp) (by simp) (by simp) (by simp) ?_ hid hg;simp[U,hN,hF,varNames];exact aJ.bw)
end
section
variable {I:Nat->Value}(hρ:J.Good I){E:Env}(U:E.P=Pg)(aq:bK I E)
include hρ U aq
def FQ(hl:l.length<=10000)(h0:aw 0 T C (dP [(0,.sl (l.map dV) false),(3,.a8),(4,.int .i64 ((0:Nat):Int))]) { H:=dP [],n:=1,log:=[] })(hQ:Q (.exit 0) (dP [(3,oV 0 ((l.map (·.name)).map b5))]) { H:=dP (oH 0 1 ((l.map (·.name)).map b5)),n:=1,log:=[] }):Ls I E 0 20 (.loop vH) T C Q:=by
 refine rA hρ U aq l.length (nn:=1) (λi (L:Z (Z Nat))=>[(0,.sl (l.map dV) false),(3,oV 0 (L.map b5)),(4,.int .i64 (i:Int))]) (λi L=>oH 0 1 (L.map b5)) (λi L=>L=(l.take i).map (·.name)) [] h0 rfl ?_ ?_;intro L hL K;rw[gm]at hL;rw[<- hL]at hQ;clear hL;rcases L with _|⟨x,L⟩<;>simp[vH,U]<;>exact bM.mk (aw.auto) hQ
 intro i L hi hL K hK;have cm:(i:Int)<l.length:=by omega
 have cr:=bG (i:=i);have aE:=hK (L++[l[i].name]) (by rw[dS,az hi,iB,fe,hL];rfl);have Em:L.length=i:=by rw[hL,aN,dR];omega
 clear hL;rcases L with _|⟨x,L⟩;simp[vH,U,hi,cm,cr,-Int.natCast_add];exact aE _ _ (aw.auto);have qs:(L.length+1+1)*16<=1048576:=aO (aQ 16 (show L.length+1+1<=10001 by simp at Em;omega)) (by decide);simp[vH,U,hi,cm,cr,qs,bf,-Int.natCast_add];exact aE _ _ (aw.auto)
def Ta(hl:l.length<=10000)(C:HS):aS I Pg 23 [enc l] C (enc (l.map (·.name))) C:=by
 refine fn hρ U aq Tryz.func23 wY.2 rfl (by simp) ?_ C;have xj:=λT C Q=>FQ hρ U aq hl (T:=T) (C:=C) (Q:=Q);generalize l.map (·.name)=L at xj ⊢;simp[U];refine xj _ _ _ (aw.auto) ?_;rcases L with _|⟨x,L⟩<;>simp[U]
def Tc(hl:l.length<=10000)(hv:C.H.get C.n=none):aS I Pg 23 [enc l] C (oV C.n ((l.map (·.name)).map b5)) (bi (Nat.beq (dB ((l.map (·.name)).map b5)) 0) C { H:=C.H.set C.n (oO 1 ((l.map (·.name)).map b5)),n:=C.n+1,log:=C.n::C.log }):=by
 refine row hρ U aq Tryz.func23 wY.2 rfl (by simp) (by simp) ?_ hv;have xj:=λT C Q=>FQ hρ U aq hl (T:=T) (C:=C) (Q:=Q);generalize l.map (·.name)=L at xj ⊢;simp[U];refine xj _ _ _ (aw.auto) ?_;rcases L with _|⟨x,L⟩<;>simp[U]<;>exact aJ.fC rfl rfl rfl (by simp)
theorem Td  (hV:E.dA 71=dC (cz λl:Z G=>if G.fl l=true/\l.length<=10000/\G.bj l<=d then some (um l)else none)) (hH:E.dA 72=K4 (cB λ(l:Z Int) (x:Int)=>if l.length<=1000000 then some (decide (x∈l))else none))
 (hB:E.dA 31=dC (cz λi=>some (ry i))) (hR:E.dA 48=dC (cB (NN d))) {t:G} {ids:Z Int} (ht:t.ok=true) (hd:t.size<=d) (ld:d<=10000) (zQo:ids.length<=10000) (C:HS):aS I Pg 36 [enc t,enc ids] C (enc (yU t ids)) C:=by
 refine fn hρ U aq Tryz.func36 FH.2 rfl (by simp) ?_ C;have ho:G.fl [t]=true:=by simp[G.fl,ht]
 have cd:G.bj [t]<=d:=by simpa [G.bj]using hd
 have lE:(um [t]).length<=10000:=by grind [Yo,eT,qY,um,List.length_nil]
 have zpm:ids.length<=1000000:=by omega
 simp[U,hV,ho,cd];unfold yU;generalize um [t]=vs at lE
 refine rA hρ U aq vs.length (nn:=3) (λi (L:Z cU)=>[(1,.sl (ids.map cY) false),(2,.ptr 0 0 0),(4,.ptr 1 0 0),(5,.sl (vs.map cY) false),(6,oV 2 (L.map mo)),(7,.int .i64 (i:Int))])
  (λi L=>[(0,box (aA t)),(1,box [.int .i64 0,.int .i64 0,.str [],.int .i64 0,.int .i64 0,.a8])]++oH 2 6 (L.map mo)) (λi L=>L=wC (vs.take i) ids []) []
  (aw.auto) (by simp[wC]) ?_ ?_
 intro L hL K;rw[gm]at hL;have Em:=(Wl vs ids []).2;rw[<- hL]at Em ⊢;clear hL;have iS:NN d t L=some (t.yF L):=by unfold NN;rw[if_pos ⟨ht,hd,by simp at Em;omega⟩]
 rcases L with _|⟨x,L⟩<;>simp[vI,U]
 refine bM.mk (aw.auto (TL:=[(2,.ptr 0 0 0),(4,.ptr 1 0 0),(6,.a8)]) (HL:=[(0,box (aA t)),(1,box [.int .i64 0,.int .i64 0,.str [],.int .i64 0,.int .i64 0,.a8])]) (n:=3)) ?_;simp_all;refine bM.mk (aw.auto (TL:=[(2,.ptr 0 0 0),(4,.ptr 1 0 0),(6,oV 2 ((x::L).map mo))]) (HL:=[(0,box (aA t)),(1,box [.int .i64 0,.int .i64 0,.str [],.int .i64 0,.int .i64 0,.a8])]++oH 2 6 ((x::L).map mo)) (n:=3)) ?_;simp_all;intro i L hi hL K hK;have cm:(i:Int)<vs.length:=by omega
 have cr:=bG (i:=i);have aE:=hK (if vs[i]∈ids then L++[⟨vs[i],ry L.length⟩]else L) (by rw[dS,az hi,iB,zgw,<- hL];simp[wC]);have Em:L.length<=i:=by grind [Wl,List.length_take,List.length_nil]
 clear hL;by_cases hv:vs[i]∈ids;rw[if_pos hv]at aE;rcases L with _|⟨x,L⟩;simp[vI,U,hi,cm,cr,hH,zpm,hv,hB,-Int.natCast_add];exact aE _ _ (aw.auto);have qs:(L.length+1+1)*72<=1048576:=aO (aQ 72 (show L.length+1+1<=10001 by simp at Em;omega)) (by decide);simp[vI,U,hi,cm,cr,hH,zpm,hv,hB,qs,bf,-Int.natCast_add];exact aE _ _ (aw.auto);rw[if_neg hv]at aE;rcases L with _|⟨x,L⟩<;>simp[vI,U,hi,cm,cr,hH,zpm,hv,-Int.natCast_add]<;>exact aE _ _ (aw.auto)
end
def zti(f:α->Z V):Z α->V
 | []=>.a8
 |x::l=>.sl ((x::l).map f) false
@[simp] def zE0  {f:α->Z V}:zti f []=.a8:=(rfl)
@[simp] def zBA  {f:α->Z V} {x:α} {l:Z α}:zti f (x::l)=.sl ((x::l).map f) false:=(rfl)
section
variable {I:Nat->Value}(hρ:J.Good I){E:Env}(U:E.P=Pg)(aq:bK I E)
include hρ U aq
open Classical in
theorem IG (hN:E.dA 34=IQ (Jf Cn)) (hT:E.dA 12=IQ (Je (Ny 2))) (zJe:E.dA 37=IQ (znG λt:Tp=>if t.ok then some ((t.next 8).1,varName t)else none))
 (zOr:E.dA 13=UB 5 (λvs=>ob (cz (λn:Int=>if 0<=n/\n<=10000 then some (rR n.toNat)else none) vs) λv=>match v with|.sl es _=>some es|_=>none))
 (zQA:E.dA 16=dC (cB λh i=>some (oz h i))) (zOw:E.dA 35=dC (cz λt=>some (mono t))) (zJj:E.dA 101=dC (zN λ(l:Z Entry) (n:Z Nat) (c:Scheme)=>if l.length<=1000 then some (l++[⟨n,c⟩])else none))
 (W9:E.dA 36=dC (cB λ(t:G) (ids:Z Int)=>if t.ok=true/\t.size<=1000/\ids.length<=10000 then some (yU t ids)else none))
   (ht:t.ok) (hD:zAA D) (hTy:∀ (t:Tp) (Lv:Z G),(∀ l∈Lv,l.ok=true/\l.size<=1)->(jk 2 t D Lv).2.ok=true/\(jk 2 t D Lv).2.size<=1000) (C:HS) (id:Nat) (hid:id<C.n) (hg:C.H.get id=some (box (iI.cells t))) :
 aS I Pg 55 [.ptr id 0 0,enc D] C (enc (lW t D).2) (C.wr id (box (iI.cells (lW t D).1))):=by
 have zOB:∀ t':Tp,t'.ok->Cn t' 4=some (t'.next 4):=λt' h=>if_pos ⟨h,by omega,by omega⟩;have oR:=iE ht 4;have mc:=yL t 4;have mw:=AV t (n:=4) (by omega);have hF:=zOB t ht;generalize hR:lW t D=R;unfold lW at hR;rcases hq:t.next 4 with⟨t1,k⟩;simp only[hq]at hF mc mw oR hR;obtain⟨m,rfl⟩:=bE mc;rw[bO]at hR;have zMm:∀ (t':Tp) (Lv:Z G),t'.ok->Lv.length<=100000->Ny 2 t' D Lv 2=some (jk 2 t' D Lv):=λt' Lv h hl=>by unfold Ny;grind
 have hlv:lI=[oz 0 0,oz 3 1]:=rfl;have od:rR 2=[fU 0,fU 1]:=rfl;have hce:=za5 (D:=D) oR m;refine st hρ U aq Tryz.func55 wG.2 rfl (by simp) (by simp) (by simp) ?_ ?_ hid hg;subst hR;simp;simp[U,hN,hF,zQA]
 refine rA hρ U aq m (nn:=3) (λi (p:Tp×Z Entry)=>[(0,.ptr 0 0 0),(1,.sl (D.map aT) false),(5,.ptr 1 0 0),(6,.sl [aA (oz 0 0),aA (oz 3 1)] true),(7,zti dV p.2),(8,.int .i64 (m:Int)),(9,.int .i64 (i:Int))])
  (λi p=>[(0,box (iI.cells p.1)),(1,box [.int .i64 0,.str [],.int .i64 0,.int .i64 0,.a8])]) (λi p=>p=Fx D t1 i) (t1,[])
  (aw.auto) rfl ?_ ?_
 intro p hp K;rw[<- hp]at hR hce;have oy:=zMm p.1 [oz 0 0,oz 3 1] hce.1 (by simp);let⟨t2,L⟩:=p;simp only[hlv]at hR oy;rcases nj:jk 2 t2 D [oz 0 0,oz 3 1]with⟨t3,g⟩;simp only[nj]at hR oy;subst hR;rcases L with _|⟨x,L⟩<;>simp[lq,U]
 refine bM.mk (aw.auto (TL:=[(0,.ptr 0 0 0),(1,.sl (D.map aT) false),(5,.ptr 1 0 0),(6,.sl [aA (oz 0 0),aA (oz 3 1)] true),(7,.a8)]) (HL:=[(0,box (iI.cells t2)),(1,box [.int .i64 0,.str [],.int .i64 0,.int .i64 0,.a8])]) (n:=3)) ?_;simp[U,hT,oy];exact aJ.bw;refine bM.mk (aw.auto (TL:=[(0,.ptr 0 0 0),(1,.sl (D.map aT) false),(5,.ptr 1 0 0),(6,.sl [aA (oz 0 0),aA (oz 3 1)] true),(7,zti dV (x::L))]) (HL:=[(0,box (iI.cells t2)),(1,box [.int .i64 0,.str [],.int .i64 0,.int .i64 0,.a8])]) (n:=3)) ?_;simp_all [aJ.bw];intro i p hi hp K hK;have hpe:=za5 (D:=D) oR i;rw[<- hp]at hpe;have cm:(i:Int)<m:=by omega
 have cr:=bG (i:=i);have aE:=hK (Hf D p) (by rw[hp];rfl);have Em:p.2.length<=1000:=by omega
 have zI6:=iE hpe.1 8;have zpC:=hpe.1;let⟨t2,L⟩:=p;simp only at Em zI6 zpC;have zB0:=zOB _ zI6;unfold Hf at aE;generalize Pz:varName t2=vn at aE;rcases hq8:t2.next 8 with⟨t3,k8⟩;simp only[hq8]at zB0 aE zI6;have zLL:=iE zI6 4;rcases zQb:t3.next 4 with⟨t4,k9⟩;simp only[zQb]at zB0 aE zLL;by_cases zF3:k9=0;rw[if_pos zF3]at aE;have LL:=zMm t4 (rR 2) zLL (by simp);have zJg:=hTy t4 (rR 2) (by rw[od];simp[fU,G.ok,G.fl,G.size,G.bj]);rw[od]at LL zJg aE;rcases zLS:jk 2 t4 D [fU 0,fU 1]with⟨t5,g⟩;simp only[zLS]at LL zJg aE;subst zF3;rcases L with _|⟨x,L⟩;simp[lq,U,cm,zJe,zpC,Pz,hq8,hN,zB0,zOr,od,hT,LL,W9,zJg,zJj,cr,-Int.natCast_add];exact aE _ _ (aw.auto);have zF1:L.length<=999:=by simpa using Em
 simp[lq,U,cm,zJe,zpC,Pz,hq8,hN,zB0,zOr,od,hT,LL,W9,zJg,zJj,zF1,cr,-Int.natCast_add];exact aE _ _ (aw.auto);rw[if_neg zF3]at aE;have LL:=zMm t4 lI zLL (by simp[hlv]);rw[hlv]at LL aE;rcases zLS:jk 2 t4 D [oz 0 0,oz 3 1]with⟨t5,g⟩;simp only[zLS]at LL aE;rcases L with _|⟨x,L⟩;simp[lq,U,cm,zJe,zpC,Pz,hq8,hN,zB0,zF3,hT,LL,zOw,zJj,cr,-Int.natCast_add];exact aE _ _ (aw.auto);have zF1:L.length<=999:=by simpa using Em
 simp[lq,U,cm,zJe,zpC,Pz,hq8,hN,zB0,zF3,hT,LL,zOw,zJj,zF1,cr,-Int.natCast_add];exact aE _ _ (aw.auto)
end
section
variable {I:Nat->Value}(hρ:J.Good I)
include hρ
def zDH:Valid I Pg 35 (dC (cz λt:G=>some (mono t))):=v1 (fo Tryz.func35 Po.2) λa r h C=>by
 cases h;exact UL hρ (E:=EL []) rfl (aj aH) C
def zvZ:J.Spec:=dC (zN λ(l:Z Entry) (n:Z Nat) (c:Scheme)=>if l.length<=1000 then some (l++[⟨n,c⟩])else none)
def zDD:Valid I Pg 101 zvZ:=v3 (fo Tryz.func101 Pn.2) λa b c r h C=>by
 obtain⟨M,rfl⟩:=bF h;exact UK hρ (E:=EL []) rfl (aj aH) M C
open Classical in
def XK:J.Spec:=IQ (znG λt:Tp=>if t.ok then some ((t.next 8).1,varName t)else none)
def zjm:Valid I Pg 37 XK:=Valid.st (fo Tryz.func37 BH.2) λs vs r _ hv C id hid hg=>by
 obtain⟨q,rfl,h,rfl⟩:=znF hv;obtain⟨M,rfl⟩:=bF h;exact GU hρ (E:=EL [(34,IQ (Jf Cn))]) rfl (aj (ae (zbN hρ) aH)) rfl M C id hid hg
def zxj:Valid I Pg 23 (dC (cz λl:Z Entry=>if l.length<=10000 then some (l.map (·.name))else none)):=v1 (fo Tryz.func23 wY.2) λa r h C=>by
 obtain⟨M,rfl⟩:=bF h;exact Ta hρ (E:=EL []) rfl (aj aH) M C
def wC:J.Spec:=dC (cB λ(t:G) (ids:Z Int)=>if t.ok=true/\t.size<=1000/\ids.length<=10000 then some (yU t ids)else none)
def zxp:Valid I Pg 36 wC:=v2 (fo Tryz.func36 FH.2) λa b r h C=>by
 obtain⟨⟨M,O,h3⟩,rfl⟩:=bF h
 exact Td hρ (E:=EL [(71,zmR 1000),(72,G6),(31,dC (cz λi:Int=>some (ry i))),(48,dC (cB (NN 1000)))]) rfl
  (aj (ae (zDy hρ 1000 (by omega)) (ae (zDJ hρ) (ae (zxr hρ) (ae (zm3 hρ 1000) aH))))) rfl rfl rfl rfl M O (by omega) h3 C
open Classical in
def zuA(t:Tp)(D:Z Decl):Y (Tp×Z Entry×G):=if t.ok/\zAA D/\(∀ (t:Tp) (Lv:Z G),(∀ l∈Lv,l.ok=true/\l.size<=1)->(jk 2 t D Lv).2.ok=true/\(jk 2 t D Lv).2.size<=1000)then some (lW t D)else none
def zm7:Valid I Pg 55 (IQ (Jf zuA)):=s1 (fo Tryz.func55 wG.2) λs a q h C id hid hg=>by
 obtain⟨⟨M,O,h3⟩,rfl⟩:=bF h
 exact IG hρ (E:=EL [(34,IQ (Jf Cn)),(12,IQ (Je (Ny 2))),(37,XK),(13,zh3),(16,dC (cB λh i:Int=>some (oz h i))),(35,dC (cz λt:G=>some (mono t))),(101,zvZ),(36,wC)]) rfl
  (aj (ae (zbN hρ) (ae (zDz hρ 2 (by omega)) (ae (zjm hρ) (ae (zsb hρ) (ae (zxf hρ) (ae (zDH hρ) (ae (zDD hρ) (ae (zxp hρ) aH))))))))) rfl rfl rfl rfl rfl rfl rfl rfl M O h3 C id hid hg
end
def BW{l:Z V}(h:l.length=11):∃ x0 x1 x2 x3 x4 x5 x6 x7 x8 x9 zAC,l=[x0,x1,x2,x3,x4,x5,x6,x7,x8,x9,zAC]:=by
 match l,h with
 | [x0,x1,x2,x3,x4,x5,x6,x7,x8,x9,zAC],_=>exact⟨_,_,_,_,_,_,_,_,_,_,_,rfl⟩
def zmj(c:Z V)(e:Xp):Prop:=c.length=11/\(∀ v∈c,v.bN=true)/\fF c=bP e
open Classical in
def yz(d:Nat)(t:Tp)(D:Z Decl)(N:Z (Z Nat))(n:Int):Y (Tp×Xp) :=
 if t.ok/\Se D/\N.length+200*n.toNat<=10000/\0<=n/\n<=d then some (gp n.toNat t D N)else none
def fK:Z V:=[.int .i64 0,.int .i64 0,.str [],.int .i64 0,.a8,.a8,.int .i64 0,.str [],.int .i64 0,.int .i64 0,.a8]
section
variable {I:Nat->Value}(hρ:J.Good I)
include hρ
section
variable {E:Env}(U:E.P=Pg)(aq:bK I E)
include U aq
def zjz(hT:E.dA 22=IQ (Je (yz d))){c:Z V}(ht:t.ok)(hD:Se D)(hN:N.length+200*d<=10000)(hc:zmj c e)(hm:m<=2)
 
 (h0:aw 1 T C (dP [(0,.ptr 0 0 0),(1,.sl (D.map aT) false),(2,.sl (N.map b5) false),(3,.int .i64 ((d+1:Nat):Int)),(8,.ptr 1 0 0),(15,.ptr 2 0 0),(17,.int .i64 (m:Int))])
   { H:=dP [(0,box (iI.cells t)),(1,.arr 11 0 [fK] true false false),(2,.arr 11 0 [c] true false false)],n:=3,log:=[] })
 (hQ:∀ c',zmj c' (lJ d t D N e m).2->Q (.exit 5) (dP [(8,.ptr 1 0 0),(15,.ptr 2 0 0)]) { H:=dP [(0,box (iI.cells (lJ d t D N e m).1)),(1,.arr 11 0 [fK] true false false),(2,.arr 11 0 [c'] true false false)],n:=3,log:=[] }) :
 Ls I E 1 177 (.loop rY) T C Q:=by
 have fW:(m:Int)=(m:Int)-(0:Nat):=by omega
 rw[fW]at h0
 refine rA hρ U aq m (nn:=3) (λi (S:Tp×Z V)=>[(0,.ptr 0 0 0),(1,.sl (D.map aT) false),(2,.sl (N.map b5) false),(3,.int .i64 ((d+1:Nat):Int)),(8,.ptr 1 0 0),(15,.ptr 2 0 0),(17,.int .i64 ((m:Int)-(i:Int)))])
  (λi S=>[(0,box (iI.cells S.1)),(1,.arr 11 0 [fK] true false false),(2,.arr 11 0 [S.2] true false false)]) (λi S=>S.1=(lJ d t D N e i).1/\zmj S.2 (lJ d t D N e i).2) (t,c) h0 ⟨by rw[lJ],by rw[lJ];exact hc⟩ ?_ ?_
 rintro ⟨u,c'⟩ ⟨M,O⟩ K;simp only at M O;have:=hQ c' O;rw[<- M]at this;let⟨hl,hp,hn⟩:=O;obtain⟨x0,x1,x2,x3,x4,x5,x6,x7,x8,x9,zAC,rfl⟩:=BW hl;simp at hp;let⟨p0,p1,p2,p3,p4,p5,p6,p7,p8,p9,zBj⟩:=hp;simp[rY,U];exact bM.mk (aw.auto (hH:=by simp[fK,V.Ah,V.jF,p0,p1,p2,p3,p4,p5,p6,p7,p8,p9,zBj])) this;rintro i ⟨u,c'⟩ hi ⟨M,O⟩ K hK;simp only at M O;have cm:(i:Int)<m:=by omega
 have cr:IntKind.i64.wrap ((m:Int)-(i:Int)-1)=(m:Int)-((i+1:Nat):Int):=by rw[wrap_i64 (by omega) (by omega)];omega
 have E1:IntKind.i64.wrap (((d+1:Nat):Int)-1)=(d:Int):=by rw[wrap_i64 (by omega) (by omega)];omega
 have hu:u.ok:=by rw[M];exact zd8 (λt N h=>Um d t N h) ht N e i
 have hF:yz d u D N (d:Int)=some (gp d u D N):=by unfold yz;rw[if_pos ⟨hu,hD,by omega,by omega,by omega⟩];rfl
 let⟨hl,hp,hn⟩:=O;have C2:lJ d t D N e (i+1)=((gp d u D N).1,Ue (lJ d t D N e i).2 (gp d u D N).2):=by rw[M,lJ]
 generalize (lJ d t D N e i).2=e1 at hn C2;rcases hq:gp d u D N with⟨u2,y⟩;rw[hq]at hF C2;obtain⟨x0,x1,x2,x3,x4,x5,x6,x7,x8,x9,zAC,rfl⟩:=BW hl;simp at hp;let⟨p0,p1,p2,p3,p4,p5,p6,p7,p8,p9,zBj⟩:=hp
 have aE:=hK (u2,[.int .i64 5,.int .i64 0,.str [],.int .i64 0,.sl [[x0,x1,x2,x3,x4,x5,x6,x7,x8,x9,zAC],bP y] true,.a8,.int .i64 0,.str [],.int .i64 0,.int .i64 0,.a8]) (by
  rw[C2];refine⟨rfl,rfl,by simp,?_⟩;simp[Ue,bq (.mk 5 _ _ _ _ _ _),wI]
  simpa [bq e1]using hn)
 simp[rY,U,cm,E1,hT,hF,p0,p1,p2,p3,p4,p5,p6,p7,p8,p9,zBj,cr,-Int.natCast_add];exact aE _ _ (aw.auto (hH:=by simp[fK]))
end
end
def NJ{e:Z V}(h:(e.all V.bN)=true):e.map (V.jr π)=e:=by
 have:=uH (π:=π) (es:=[e]) (by simpa using h);simpa using this
section
variable {I:Nat->Value}(hρ:J.Good I)
include hρ
section
variable {E:Env}(U:E.P=Pg)(aq:bK I E)
include U aq
def zjx{k:Z V}{A:Z (Z V)}{dA:Z Nat}(hi:i<dd.ctors.length)(hA:(A.all λr=>r.all V.bN)=true)(S7:dd.ctors[i].fields.length<=100)
 
 (h0:aw 1 T C (dP [(0,.ptr 0 0 0),(1,.sl (D.map aT) false),(2,.sl (N.map b5) false),(3,.int .i64 ((d+1:Nat):Int)),(8,.ptr 1 0 0),(10,.ptr 2 0 0),(11,.ptr 3 0 0),(12,.int .i64 (i:Int)),(13,.ptr 5 0 0),(14,.int .i64 ((0:Nat):Int))])
   { H:=dP ([(0,box (iI.cells t)),(1,.arr 11 0 [fK] true false false),(2,box (aT dd)),(3,.arr 11 0 [[.int .i64 8,.int .i64 0,.str [],.int .i64 0,.sl [k] true,oV 4 A,.int .i64 0,.str [],.int .i64 0,.int .i64 0,.a8]] true false false),(5,.arr 14 0 [[.int .i64 0,.str dA,.a8,.int .i64 0,.int .i64 0,.str [],.int .i64 0,.a8,.a8,.int .i64 0,.str [],.int .i64 0,.int .i64 0,.a8]] true false false)]++oH 4 14 A),n:=7,log:=[] })
 (hQ:Q (.exit 3) (dP [(0,.ptr 0 0 0),(1,.sl (D.map aT) false),(2,.sl (N.map b5) false),(3,.int .i64 ((d+1:Nat):Int)),(8,.ptr 1 0 0),(10,.ptr 2 0 0),(11,.ptr 3 0 0),(12,.int .i64 (i:Int)),(13,.ptr 5 0 0)])
   { H:=dP ([(0,box (iI.cells t)),(1,.arr 11 0 [fK] true false false),(2,box (aT dd)),(3,.arr 11 0 [[.int .i64 8,.int .i64 0,.str [],.int .i64 0,.sl [k] true,oV 4 A,.int .i64 0,.str [],.int .i64 0,.int .i64 0,.a8]] true false false),(5,.arr 14 0 [[.int .i64 0,.str dA,oV 6 ((j6 dd.ctors[i].fields.length).map b5),.int .i64 0,.int .i64 0,.str [],.int .i64 0,.a8,.a8,.int .i64 0,.str [],.int .i64 0,.int .i64 0,.a8]] true false false)]++oH 4 14 A++oH 6 1 ((j6 dd.ctors[i].fields.length).map b5)),n:=7,log:=[] }) :
 Ls I E 1 177 (.loop xC) T C Q:=by
 have HO:i*3 / 3=i:=by omega
 refine rA hρ U aq dd.ctors[i].fields.length (nn:=7) (λj (er:Z (Z Nat))=>[(0,.ptr 0 0 0),(1,.sl (D.map aT) false),(2,.sl (N.map b5) false),(3,.int .i64 ((d+1:Nat):Int)),(8,.ptr 1 0 0),(10,.ptr 2 0 0),(11,.ptr 3 0 0),(12,.int .i64 (i:Int)),(13,.ptr 5 0 0),(14,.int .i64 (j:Int))])
  (λj er=>[(0,box (iI.cells t)),(1,.arr 11 0 [fK] true false false),(2,box (aT dd)),(3,.arr 11 0 [[.int .i64 8,.int .i64 0,.str [],.int .i64 0,.sl [k] true,oV 4 A,.int .i64 0,.str [],.int .i64 0,.int .i64 0,.a8]] true false false),(5,.arr 14 0 [[.int .i64 0,.str dA,oV 6 (er.map b5),.int .i64 0,.int .i64 0,.str [],.int .i64 0,.a8,.a8,.int .i64 0,.str [],.int .i64 0,.int .i64 0,.a8]] true false false)]++oH 4 14 A++oH 6 1 (er.map b5)) (λj er=>er=j6 j) [] (by simpa using h0) rfl ?_ ?_
 . intro er hW K;subst hW;have hq:=hQ;generalize hf:dd.ctors[i].fields.length=nf at hq S7 ⊢;generalize j6 nf=er at hq ⊢;have mA:∀ a B,A=a::B->(a.all V.bN)=true/\(B.all λr=>r.all V.bN)=true:=(by rintro a B rfl;simpa using hA);rcases A with _|⟨a,A⟩<;>rcases er with _|⟨w,er⟩<;>simp[xC,U,hi,HO,hf,iK]
   all_goals exact bM.mk (aw.auto (by simp[fK]) (by first|(simp[fK,aT];done)|simp[fK,aT,NJ (mA _ _ rfl).1,uH (mA _ _ rfl).2,(mA _ _ rfl).1,(mA _ _ rfl).2]) (by simp[fK])) hq
 . intro j er hj hW K hK;have gO:(j:Int)<dd.ctors[i].fields.length:=(by omega);have cr:=bG (i:=j);have aE:=hK (er++[O4 j]) (by rw[hW,zbc]);have zGi:er.length=j:=(by rw[hW,BA]);clear hW h0 hQ hK;have mA:∀ a B,A=a::B->(a.all V.bN)=true/\(B.all λr=>r.all V.bN)=true:=(by rintro a B rfl;simpa using hA);have sq:(j:Int).tmod 4=((j % 4:Nat):Int):=(by rw[Int.ofNat_tmod];rfl);generalize hf:dd.ctors[i].fields=fs at hj gO S7;have k1:∀ w B,er=w::B->(B.length+1+1)*16<=1048576:=(by rintro w B rfl;simp at zGi;omega);unfold O4 at aE;have h4:j % 4=0\/j % 4=1\/j % 4=2\/j % 4=3:=(by omega);rcases h4 with h4|h4|h4|h4<;>rw[h4]at sq aE<;>rcases A with _|⟨a,A⟩<;>rcases er with _|⟨w,er⟩
   all_goals first
    |simp[xC,U,hi,HO,hf,iK,gO,sq,cr,k1 _ _ rfl,bf,-Int.natCast_add]
    |simp[xC,U,hi,HO,hf,iK,gO,sq,cr,-Int.natCast_add]
   all_goals exact aE _ _ (aw.auto (by simp[fK,-Int.natCast_add]) (by first|(simp[fK,aT];done)|simp[fK,aT,NJ (mA _ _ rfl).1,uH (mA _ _ rfl).2,(mA _ _ rfl).1,(mA _ _ rfl).2]) (by simp[fK]))
end
end
def zfu:Z (Z Nat)->V
 | []=>.a8
 |v::l=>.sl ((v::l).map b5) false
def zfo(l:Z α)(n:Nat):kF l n []=l:=by
 apply o8;intro i;by_cases h:i<l.length
 rw[FR _ _ _ _ h,if_neg (by simp)];rw[zkr _ _ _ _ (by omega),jS (by omega)]
section
variable {I:Nat->Value}(hρ:J.Good I)
include hρ
section
variable {E:Env}(U:E.P=Pg)(aq:bK I E)
include U aq
def zjy(hT:E.dA 22=IQ (Je (yz d))){k:Z V}(ht:t.ok)(hD:Se D)(hN:N.length+200*(d+1)<=10000)(BE:N≠[])(C1:dd.ctors.length<=100)(C0:∀ c∈dd.ctors,c.fields.length<=100)
 
 (h0:aw 1 T C (dP [(0,.ptr 0 0 0),(1,.sl (D.map aT) false),(2,.sl (N.map b5) false),(3,.int .i64 ((d+1:Nat):Int)),(8,.ptr 1 0 0),(10,.ptr 2 0 0),(11,.ptr 3 0 0),(12,.int .i64 ((0:Nat):Int))]) { H:=dP ([(0,box (iI.cells t)),(1,.arr 11 0 [fK] true false false),(2,box (aT dd)),(3,.arr 11 0 [[.int .i64 8,.int .i64 0,.str [],.int .i64 0,.sl [k] true,oV 4 [],.int .i64 0,.str [],.int .i64 0,.int .i64 0,.a8]] true false false)]++oH 4 14 []),n:=5,log:=[] })
 (hQ:∀ A,(A.all λr=>r.all V.bN)=true->gP A=((kI d t D N dd.ctors dd.ctors.length).2.map dW)->Q (.exit 1) (dP [(8,.ptr 1 0 0),(11,.ptr 3 0 0)]) { H:=dP ([(0,box (iI.cells (kI d t D N dd.ctors dd.ctors.length).1)),(1,.arr 11 0 [fK] true false false),(3,.arr 11 0 [[.int .i64 8,.int .i64 0,.str [],.int .i64 0,.sl [k] true,oV 4 A,.int .i64 0,.str [],.int .i64 0,.int .i64 0,.a8]] true false false)]++oH 4 14 A),n:=5,log:=[] }) :
 Ls I E 1 177 (.loop nI) T C Q:=by
 refine rA hρ U aq dd.ctors.length (nn:=5) (λi (S:Tp×Z (Z V))=>[(0,.ptr 0 0 0),(1,.sl (D.map aT) false),(2,.sl (N.map b5) false),(3,.int .i64 ((d+1:Nat):Int)),(8,.ptr 1 0 0),(10,.ptr 2 0 0),(11,.ptr 3 0 0),(12,.int .i64 (i:Int))])
  (λi S=>[(0,box (iI.cells S.1)),(1,.arr 11 0 [fK] true false false),(2,box (aT dd)),(3,.arr 11 0 [[.int .i64 8,.int .i64 0,.str [],.int .i64 0,.sl [k] true,oV 4 S.2,.int .i64 0,.str [],.int .i64 0,.int .i64 0,.a8]] true false false)]++oH 4 14 S.2) (λi S=>S.1=(kI d t D N dd.ctors i).1/\(S.2.all λr=>r.all V.bN)=true/\gP S.2=((kI d t D N dd.ctors i).2.map dW)) (t,[]) (by simpa using h0) ⟨by rw[kI],rfl,by rw[kI];rfl⟩ ?_ ?_
 . rintro ⟨u,A⟩ ⟨M,O,h3⟩ K;simp only at M O h3;have hq:=hQ A O h3;rw[<- M]at hq;have mA:∀ a B,A=a::B->(a.all V.bN)=true/\(B.all λr=>r.all V.bN)=true:=(by rintro a B rfl;simpa using O);rcases A with _|⟨a,A⟩<;>simp[nI,U]
   all_goals exact bM.mk (aw.auto (by simp[fK]) (by first|(simp[fK,aT];done)|simp[fK,aT,NJ (mA _ _ rfl).1,uH (mA _ _ rfl).2,(mA _ _ rfl).1,(mA _ _ rfl).2]) (by simp[fK])) hq
 . rintro i ⟨u,A⟩ hi ⟨M,O,h3⟩ K hK;simp only at M O h3;have cm:(i:Int)<dd.ctors.length:=(by omega);have cr:=bG (i:=i);have E1:IntKind.i64.wrap (((d+1:Nat):Int)-1)=(d:Int):=(by rw[wrap_i64 (by omega) (by omega)];omega);have HO:i*3 / 3=i:=(by omega);have S7:=C0 _ (ax hi);have hu:u.ok:=(by rw[M];exact(WE (λt N h=>Um d t N h) ht N _ i).1);have hF:yz d u D (N++j6 dd.ctors[i].fields.length) (d:Int)=some (gp d u D (N++j6 dd.ctors[i].fields.length)):=(by unfold yz;rw[if_pos ⟨hu,hD,by simp;omega,by omega,by omega⟩];rfl);have C2:kI d t D N dd.ctors (i+1)=((gp d u D (N++j6 dd.ctors[i].fields.length)).1,(kI d t D N dd.ctors i).2++[.mk 0 dd.ctors[i].name (j6 dd.ctors[i].fields.length) (gp d u D (N++j6 dd.ctors[i].fields.length)).2]):=(by rw[M,kI,az hi];rfl);have hlA:A.length<=100:=(by have e1:=congrArg List.length h3;rw[aN,(WE (λt N h=>Um d t N h) ht N _ i).2,Da,aN]at e1;omega);generalize (kI d t D N dd.ctors i).2=B at h3 C2;rcases hq:gp d u D (N++j6 dd.ctors[i].fields.length)with⟨u2,y⟩;rw[hq]at hF C2;have mA:∀ a B,A=a::B->(a.all V.bN)=true/\(B.all λr=>r.all V.bN)=true:=(by rintro a B rfl;simpa using O);obtain⟨n0,N',rfl⟩:=cK BE;generalize fy:j6 dd.ctors[i].fields.length=vs at hF C2;have lE:vs.length<=100:=(by rw[<- fy,BA];exact S7);have g1:(N'.length+1)*16<=1048576:=(by simp at hN;omega);have k1:∀ a B,A=a::B->(B.length+1+1)*200<=1048576:=by rintro a B rfl;simp at hlA;omega
   have aE:=hK (u2,A++[.int .i64 0::.str dd.ctors[i].name::zfu vs::bP y]) (by
    refine⟨by rw[C2],?_,?_⟩;rw[List.all_append,O];cases vs<;>simp[bq,zfu]
    rw[C2,fe,<- h3,Da,Da,fe];cases vs<;>simp[zfu,ik,bq y])
   have zJo:vs=[]->yz d u D (n0::N') (d:Int)=some (u2,y):=(by rintro rfl;simpa using hF);have my:∀ v B,vs=v::B->yz d u D (n0::(N'++v::B)) (d:Int)=some (u2,y):=(by rintro v B rfl;simpa using hF);have g2:∀ v B,vs=v::B->(N'.length+1+(B.length+1))*16<=1048576/\¬ N'.length+1+(B.length+1)<=N'.length+1:=(by rintro v B rfl;simp at hN lE;omega);have e1:eZ (gP (List.take N'.length (kF (N'.map b5) N'.length [])))=some N':=(by rw[zfo,aP (by simp)];simp);have e2:∀ v B,vs=v::B->eZ (gP (List.take (N'.length+1+(B.length+1)) (b5 n0::(N'.map b5++b5 v::B.map b5))))=some (n0::(N'++v::B)):=(by(rintro v B rfl;rw[aP (by simp;omega),show b5 n0::(N'.map b5++b5 v::B.map b5)=(n0::(N'++v::B)).map b5 by simp];simp only[zcN,zdC]));have g3:∀ v B,vs=v::B->N'.length+1+(B.length+1)<=N'.length+(B.length+1)+1:=(by intros;omega);clear h0 hQ hK C2 hF h3;rcases A with _|⟨a,A⟩
   all_goals simp[nI,U,hi,cm,HO,iK,-Int.natCast_add]
   all_goals refine zjx hρ U aq (d:=d) (t:=u) (D:=D) (N:=n0::N') (k:=k) (dA:=dd.ctors[i].name) hi O S7 (aw.auto (by simp[fK,-Int.natCast_add]) (by first|(simp[fK,aT];done)|simp[fK,aT,NJ (mA _ _ rfl).1,uH (mA _ _ rfl).2,(mA _ _ rfl).1,(mA _ _ rfl).2]) (by simp[fK])) ?_
   all_goals rw[fy]
   all_goals clear fy
   all_goals rcases vs with _|⟨v,vs⟩
   all_goals first
    |simp[nI,U,hi,cm,HO,E1,cr,hT,g1,(g2 _ _ rfl).1,(g2 _ _ rfl).2,e2 _ _ rfl,g3 _ _ rfl,my _ _ rfl,k1 _ _ rfl,bf,-Int.natCast_add]
    |simp[nI,U,hi,cm,HO,E1,cr,hT,g1,e1,zJo rfl,k1 _ _ rfl,bf,-Int.natCast_add]
    |simp[nI,U,hi,cm,HO,E1,cr,hT,g1,(g2 _ _ rfl).1,(g2 _ _ rfl).2,e2 _ _ rfl,g3 _ _ rfl,my _ _ rfl,-Int.natCast_add]
    |simp[nI,U,hi,cm,HO,E1,cr,hT,g1,e1,zJo rfl,-Int.natCast_add]
   all_goals exact aE _ _ (aw.auto (by simp[fK,zfu,bq,-Int.natCast_add]) (by first|(simp[fK,aT,zfu,bq];done)|simp[fK,aT,zfu,bq,NJ (mA _ _ rfl).1,uH (mA _ _ rfl).2,(mA _ _ rfl).1,(mA _ _ rfl).2]) (by simp[fK,zfu,bq]))
end
end
def Ju(h:v.bN=true):v.mY=true:=by cases v<;>first|rfl|cases h
def UU(h:v.bN=true):v.MQ A=true:=by cases v<;>first|exact h|cases h
def VS(e:Nat)(t:Tp)(D:Z Decl)(N:Z (Z Nat))(x:Xp)(m:Nat):Tp×Xp :=
 match e with
 | 0=>(t,x)
 |d+1=>lJ d t D N x m
def Bg (t:Tp) (D:Z Decl) (N:Z (Z Nat)):Tp×Bool×Z Nat :=
 let p:=if N≠[]then ((t.next N.length).1,mW [] N (t.next N.length).2)else (t,[120])
 if D≠[]then
  (if (p.1.next 2).2=0 then
    let a:=(p.1.next 2).1.next D.length;let dd:=mW zR D a.2;let b:=a.1.next dd.ctors.length
    (b.1,true,(mW JU dd.ctors b.2).name)
  else ((p.1.next 2).1,false,p.2))
 else (p.1,false,p.2)
def H7(b:Bool)(n:Z Nat):Xp:=if b then SG n else zH n
def Ak(e:Nat)(t:Tp)(D:Z Decl)(N:Z (Z Nat)):zP e t D N=VS e ((Bg t D N).1.next 3).1 D N (H7 (Bg t D N).2.1 (Bg t D N).2.2) ((Bg t D N).1.next 3).2.toNat:=by
 rw[zP.eq_def];unfold Bg VS H7;cases e<;>by_cases hN:N=[]<;>by_cases hD:D=[]<;>simp only[hN,hD,ne_eq,not_true_eq_false,not_false_eq_true,if_true,if_false]<;>first|rfl|(split<;>rfl)
def CE{z:α}{l:Z α}(h:i<l.length):mW z l (i:Int)=l[i]:=by
 unfold mW;rw[bO,az h];rfl
def zX(k:Int)(n:Z Nat):Z V:=[.int .i64 k,.int .i64 0,.str n,.int .i64 0,.a8,.a8,.int .i64 0,.str [],.int .i64 0,.int .i64 0,.a8]
def zhS(b:Bool)(n:Z Nat):zmj (zX (if b then 2 else 1) n) (H7 b n):=by
 refine⟨rfl,by simp[zX],?_⟩;cases b<;>simp[zX,H7,SG,zH,bq,wI]
section
variable {I:Nat->Value}(hρ:J.Good I)
include hρ
section
variable {E:Env}(U:E.P=Pg)(aq:bK I E)
include U aq
def FJ{e:Nat}(hT:∀ d,e=d+1->E.dA 22=IQ (Je (yz d)))(ht:t.ok)(hD:Se D)(hN:N.length+200*e<=10000)(hm:m<=2)
 
 (h0:aw 1 T C (dP [(0,.ptr 0 0 0),(1,.sl (D.map aT) false),(2,.sl (N.map b5) false),(3,.int .i64 (e:Int)),(8,.ptr 1 0 0),(15,.ptr 2 0 0),(17,.int .i64 (m:Int))])
   { H:=dP [(0,box (iI.cells t)),(1,.arr 11 0 [fK] true false false),(2,.arr 11 0 [zX (if b then 2 else 1) n] true false false)],n:=3,log:=[] })
 (hQ:∀ c',zmj c' (VS e t D N (H7 b n) m).2->Q (.exit 5) (dP [(8,.ptr 1 0 0),(15,.ptr 2 0 0)]) { H:=dP [(0,box (iI.cells (VS e t D N (H7 b n) m).1)),(1,.arr 11 0 [fK] true false false),(2,.arr 11 0 [c'] true false false)],n:=3,log:=[] }) :
 Ls I E 1 177 (.loop rY) T C Q:=by
 cases e with
 |succ d=>exact zjz hρ U aq (hT d rfl) ht hD (by omega) (zhS b n) hm h0 hQ
 | zero =>
   have hq:=hQ _ (zhS b n)
   refine rA hρ U aq 0 (nn:=3) (λ_ (_:Unit)=>[(0,.ptr 0 0 0),(1,.sl (D.map aT) false),(2,.sl (N.map b5) false),(3,.int .i64 ((0:Nat):Int)),(8,.ptr 1 0 0),(15,.ptr 2 0 0),(17,.int .i64 (m:Int))])
    (λ_ _=>[(0,box (iI.cells t)),(1,.arr 11 0 [fK] true false false),(2,.arr 11 0 [zX (if b then 2 else 1) n] true false false)]) (λ_ _=>True) () h0 trivial ?_ (λi _ h=>by omega)
   intro _ _ K;by_cases fW:0<m<;>simp[rY,U,fW]
   all_goals exact bM.mk (aw.auto (by simp[fK,zX]) (by simp[fK,zX,VS]) (by simp[fK,zX])) hq
def JD {e:Nat} (AK:E.dA 34=IQ (Jf Cn)) (hT:∀ d,e=d+1->E.dA 22=IQ (Je (yz d)))    (ht:t.ok) (hD:Se D) (hN:N.length+200*e<=10000) (C:HS) (id:Nat) (hid:id<C.n) (hg:C.H.get id=some (box (iI.cells t))) :
 aS I Pg 22 [.ptr id 0 0,enc D,enc N,enc (e:Int)] C (enc (gp e t D N).2) (C.wr id (box (iI.cells (gp e t D N).1))):=by
 have yd:∀ (t':Tp) (n:Int),t'.ok->0<=n->n<=10000->Cn t' n=some (t'.next n):=λt' n h M O=>if_pos ⟨h,by omega,by omega⟩;have kc:∀ (t':Tp) (n:Nat),0<n->∃ j:Nat,(t'.next n).2=(j:Int)/\j<n:=λt' n hn=>by have h0:=yL t' n;have M:=AV t' (n:=(n:Int)) (by omega);let⟨j,hj⟩:=bE h0;exact⟨j,hj,by omega⟩
 rw[<- U];refine zsB (K:=λv C=>aJ 1 (enc (gp e t D N).2) [(0,box (iI.cells (gp e t D N).1))] v C\/Cm 1 (enc (gp e t D N).2) [(0,box (iI.cells (gp e t D N).1))] v C) hρ aq (by rw[U];exact follows) (by rw[U];exact named) (by rw[U];exact Tryz.func22) zD.2 rfl (by simp) (by simp) (by simp) (by simp[V.sS,V.Ai,V.MQ]) ?_ (λ_ _ h=>h) hid hg;clear hid hg;obtain⟨k,hk,v9⟩:∃ k:Nat,(t.next 8).2=(k:Int)/\k<8:=kc t 8 (by omega);have oR:=iE ht 8;have hF:=yd t 8 ht (by omega) (by omega);have hDl:=hD.1.1;have hNl:N.length<=10000:=by omega
 generalize hR:gp e t D N=R
 have cM:∀ c':Z V,zmj c' R.2->Wp I E 1 177 (.seq (.zE [⟨some 176,.load 48 (.tmp 15),none⟩,⟨none,.store 48 (.tmp 8) (.tmp 176),none⟩]) .ret) (dP [(8,.ptr 1 0 0),(15,.ptr 2 0 0)])
  { H:=dP [(0,box (iI.cells R.1)),(1,.arr 11 0 [fK] true false false),(2,.arr 11 0 [c'] true false false)],n:=3,log:=[] } (J.Leaves E.P Tryz.f22 λv C=>aJ 1 (enc R.2) [(0,box (iI.cells R.1))] v C\/Cm 1 (enc R.2) [(0,box (iI.cells R.1))] v C):=by
  rintro c' ⟨hl,hp,hn⟩;obtain⟨x0,x1,x2,x3,x4,x5,x6,x7,x8,x9,zAC,rfl⟩:=BW hl;simp at hp;let⟨p0,p1,p2,p3,p4,p5,p6,p7,p8,p9,zBj⟩:=hp;simp[U,fK,Ju p0,Ju p1,Ju p2,Ju p3,Ju p4,Ju p5,Ju p6,Ju p7,Ju p8,Ju p9,Ju zBj];exact .inl (aJ.bw (hn:=by simpa [bq R.2]using hn) (hv:=by simp[UU p0,UU p1,UU p2,UU p3,UU p4,UU p5,UU p6,UU p7,UU p8,UU p9,UU zBj]))
 have way:(gp e t D N=zP e (t.next 8).1 D N/\((((e:Int)<1)=True)\/((((e:Int)<1)=False)/\(((k:Int)<2)=False)/\(((k:Int)=2)=False))\/((((e:Int)<1)=False)/\(((k:Int)<2)=False)/\(((k:Int)=2)=True)/\¬ (D≠[]/\N≠[])))) \/
  (∃ d,e=d+1/\(((k:Int)<2)=True))\/(∃ d,e=d+1/\k=2/\D≠[]/\N≠[]):=by
  cases e with
  |zero=>exact .inl ⟨by rw[gp],.inl (by simp)⟩
  | succ d =>have M:((((d+1:Nat):Int))<1)=False:=eq_false (by omega);by_cases O:(k:Int)<2;exact .inr (.inl ⟨d,rfl,eq_true O⟩);by_cases h4:(k:Int)=2/\D≠[]/\N≠[];exact .inr (.inr ⟨d,rfl,by omega,h4.2.1,h4.2.2⟩);refine .inl ⟨?_,.inr ?_⟩;rw[gp];simp only[hk];rw[if_neg O,if_neg h4];by_cases h3:(k:Int)=2;exact .inr ⟨M,eq_false O,eq_true h3,λh=>h4 ⟨h3,h⟩⟩;exact .inl ⟨M,eq_false O,eq_false h3⟩
 rcases hq:t.next 8 with⟨t1,k'⟩;simp only[hq]at hk oR hF way;subst hk;rcases way with⟨hw,W⟩|⟨d,rfl,hk⟩|⟨d,rfl,rfl,tw,BE⟩;by_cases BE:N=[];subst BE;by_cases tw:D=[]
 . subst tw;have hP:Bg t1 [] []=(t1,false,[120]):=(by simp[Bg]);obtain⟨m,hm,yW⟩:∃ m:Nat,(Tp.next t1 3).2=(m:Int)/\m<3:=kc t1 3 (by omega);have OA:=yd t1 3 oR (by omega) (by omega);have s8:=iE oR 3;rcases pr:Tp.next t1 3 with⟨t3,k3⟩;simp only[pr]at hm OA s8;subst hm;have hH:zP e t1 [] []=VS e t3 [] [] (H7 false ([120])) m:=(by rw[Ak,hP];simp only[pr,bO]);rcases W with he|⟨he,hk,np⟩|⟨he,hk,np,hor⟩
   all_goals first|simp[U,AK,hF,OA,he,hk,np,-Int.natCast_add]|simp[U,AK,hF,OA,he,-Int.natCast_add]
   all_goals refine FJ hρ U aq (e:=e) (b:=false) (n:=[120]) hT s8 hD hN (m:=m) (by omega) (aw.auto (hH:=by simp[fK,zX]) (hi:=by simp[fK,zX])) ?_
   all_goals rw[<- hH,<- hw,hR]
   all_goals exact cM
 have B3:0<D.length:=bR.2 tw;have oy:=yd t1 2 oR (by omega) (by omega);have po:=iE oR 2;rcases nj:Tp.next t1 2 with⟨t2,k2⟩;simp only[nj]at oy po;by_cases hz:k2=0
 . subst hz;let⟨jd,Th,Qn⟩:=kc t2 D.length (bR.2 tw);have Iv:=yd t2 D.length po (by omega) (by omega);have Hi:=iE po D.length;rcases Rr:t2.next D.length with⟨tD,kD⟩;simp only[Rr]at Th Iv Hi;subst Th;let⟨wk,C1,_⟩:=hD.2 _ (ax Qn);have E4:=bR.2 wk;let⟨jc,hjc,zfQ⟩:=kc tD D[jd].ctors.length E4;have Wa:=yd tD D[jd].ctors.length Hi (by omega) (by omega);have W5:=iE Hi D[jd].ctors.length;rcases zFP:tD.next D[jd].ctors.length with⟨tC,kC⟩;simp only[zFP]at hjc Wa W5;subst hjc;have m1:jd*4 / 4=jd:=(by omega);have m3:jc*3 / 3=jc:=(by omega);have hP:Bg t1 D []=(tC,true,D[jd].ctors[jc].name):=(by simp[Bg,tw,nj,Rr,CE Qn,zFP,CE zfQ]);obtain⟨m,hm,yW⟩:∃ m:Nat,(Tp.next tC 3).2=(m:Int)/\m<3:=kc tC 3 (by omega);have OA:=yd tC 3 W5 (by omega) (by omega);have s8:=iE W5 3;rcases pr:Tp.next tC 3 with⟨t3,k3⟩;simp only[pr]at hm OA s8;subst hm;have hH:zP e t1 D []=VS e t3 D [] (H7 true (D[jd].ctors[jc].name)) m:=(by rw[Ak,hP];simp only[pr,bO]);rcases W with he|⟨he,hk,np⟩|⟨he,hk,np,hor⟩
   all_goals first|simp[U,AK,hF,B3,oy,Qn,Iv,Wa,zfQ,m1,m3,aT,iK,OA,he,hk,np,-Int.natCast_add]|simp[U,AK,hF,B3,oy,Qn,Iv,Wa,zfQ,m1,m3,aT,iK,OA,he,-Int.natCast_add]
   all_goals refine FJ hρ U aq (e:=e) (b:=true) (n:=D[jd].ctors[jc].name) hT s8 hD hN (m:=m) (by omega) (aw.auto (hH:=by simp[fK,zX]) (hi:=by simp[fK,zX])) ?_
   all_goals rw[<- hH,<- hw,hR]
   all_goals exact cM
 . have hP:Bg t1 D []=(t2,false,[120]):=(by simp[Bg,tw,nj,hz]);obtain⟨m,hm,yW⟩:∃ m:Nat,(Tp.next t2 3).2=(m:Int)/\m<3:=kc t2 3 (by omega);have OA:=yd t2 3 po (by omega) (by omega);have s8:=iE po 3;rcases pr:Tp.next t2 3 with⟨t3,k3⟩;simp only[pr]at hm OA s8;subst hm;have hH:zP e t1 D []=VS e t3 D [] (H7 false ([120])) m:=(by rw[Ak,hP];simp only[pr,bO]);rcases W with he|⟨he,hk,np⟩|⟨he,hk,np,hor⟩
   all_goals first|simp[U,AK,hF,B3,oy,hz,OA,he,hk,np,-Int.natCast_add]|simp[U,AK,hF,B3,oy,hz,OA,he,-Int.natCast_add]
   all_goals refine FJ hρ U aq (e:=e) (b:=false) (n:=[120]) hT s8 hD hN (m:=m) (by omega) (aw.auto (hH:=by simp[fK,zX]) (hi:=by simp[fK,zX])) ?_
   all_goals rw[<- hH,<- hw,hR]
   all_goals exact cM
 have LN:0<N.length:=bR.2 BE;by_cases tw:D=[]
 . subst tw;let⟨jn,CM,Qm⟩:=kc t1 N.length (bR.2 BE);have Ge:=yd t1 N.length oR (by omega) (by omega);have IN:=iE oR N.length;rcases Lz:t1.next N.length with⟨tN,kN⟩;simp only[Lz]at CM Ge IN;subst CM;have hP:Bg t1 [] N=(tN,false,N[jn]):=(by simp[Bg,BE,Lz,CE Qm]);obtain⟨m,hm,yW⟩:∃ m:Nat,(Tp.next tN 3).2=(m:Int)/\m<3:=kc tN 3 (by omega);have OA:=yd tN 3 IN (by omega) (by omega);have s8:=iE IN 3;rcases pr:Tp.next tN 3 with⟨t3,k3⟩;simp only[pr]at hm OA s8;subst hm;have hH:zP e t1 [] N=VS e t3 [] N (H7 false (N[jn])) m:=(by rw[Ak,hP];simp only[pr,bO]);rcases W with he|⟨he,hk,np⟩|⟨he,hk,np,hor⟩
   all_goals first|simp[U,AK,hF,LN,Ge,Qm,OA,he,hk,np,-Int.natCast_add]|simp[U,AK,hF,LN,Ge,Qm,OA,he,-Int.natCast_add]
   all_goals refine FJ hρ U aq (e:=e) (b:=false) (n:=N[jn]) hT s8 hD hN (m:=m) (by omega) (aw.auto (hH:=by simp[fK,zX]) (hi:=by simp[fK,zX])) ?_
   all_goals rw[<- hH,<- hw,hR]
   all_goals exact cM
 have B3:0<D.length:=bR.2 tw;let⟨jn,CM,Qm⟩:=kc t1 N.length (bR.2 BE);have Ge:=yd t1 N.length oR (by omega) (by omega);have IN:=iE oR N.length;rcases Lz:t1.next N.length with⟨tN,kN⟩;simp only[Lz]at CM Ge IN;subst CM;have oy:=yd tN 2 IN (by omega) (by omega);have po:=iE IN 2;rcases nj:Tp.next tN 2 with⟨t2,k2⟩;simp only[nj]at oy po;by_cases hz:k2=0
 . subst hz;let⟨jd,Th,Qn⟩:=kc t2 D.length (bR.2 tw);have Iv:=yd t2 D.length po (by omega) (by omega);have Hi:=iE po D.length;rcases Rr:t2.next D.length with⟨tD,kD⟩;simp only[Rr]at Th Iv Hi;subst Th;let⟨wk,C1,_⟩:=hD.2 _ (ax Qn);have E4:=bR.2 wk;let⟨jc,hjc,zfQ⟩:=kc tD D[jd].ctors.length E4;have Wa:=yd tD D[jd].ctors.length Hi (by omega) (by omega);have W5:=iE Hi D[jd].ctors.length;rcases zFP:tD.next D[jd].ctors.length with⟨tC,kC⟩;simp only[zFP]at hjc Wa W5;subst hjc;have m1:jd*4 / 4=jd:=(by omega);have m3:jc*3 / 3=jc:=(by omega);have hP:Bg t1 D N=(tC,true,D[jd].ctors[jc].name):=(by simp[Bg,BE,Lz,CE Qm,tw,nj,Rr,CE Qn,zFP,CE zfQ]);obtain⟨m,hm,yW⟩:∃ m:Nat,(Tp.next tC 3).2=(m:Int)/\m<3:=kc tC 3 (by omega);have OA:=yd tC 3 W5 (by omega) (by omega);have s8:=iE W5 3;rcases pr:Tp.next tC 3 with⟨t3,k3⟩;simp only[pr]at hm OA s8;subst hm;have hH:zP e t1 D N=VS e t3 D N (H7 true (D[jd].ctors[jc].name)) m:=(by rw[Ak,hP];simp only[pr,bO]);rcases W with he|⟨he,hk,np⟩|⟨he,hk,np,hor⟩<;>first|exact absurd ⟨tw,BE⟩ hor|skip
   all_goals first|simp[U,AK,hF,LN,Ge,Qm,B3,oy,Qn,Iv,Wa,zfQ,m1,m3,aT,iK,OA,he,hk,np,-Int.natCast_add]|simp[U,AK,hF,LN,Ge,Qm,B3,oy,Qn,Iv,Wa,zfQ,m1,m3,aT,iK,OA,he,-Int.natCast_add]
   all_goals refine FJ hρ U aq (e:=e) (b:=true) (n:=D[jd].ctors[jc].name) hT s8 hD hN (m:=m) (by omega) (aw.auto (hH:=by simp[fK,zX]) (hi:=by simp[fK,zX])) ?_
   all_goals rw[<- hH,<- hw,hR]
   all_goals exact cM
 . have hP:Bg t1 D N=(t2,false,N[jn]):=(by simp[Bg,BE,Lz,CE Qm,tw,nj,hz]);obtain⟨m,hm,yW⟩:∃ m:Nat,(Tp.next t2 3).2=(m:Int)/\m<3:=kc t2 3 (by omega);have OA:=yd t2 3 po (by omega) (by omega);have s8:=iE po 3;rcases pr:Tp.next t2 3 with⟨t3,k3⟩;simp only[pr]at hm OA s8;subst hm;have hH:zP e t1 D N=VS e t3 D N (H7 false (N[jn])) m:=(by rw[Ak,hP];simp only[pr,bO]);rcases W with he|⟨he,hk,np⟩|⟨he,hk,np,hor⟩<;>first|exact absurd ⟨tw,BE⟩ hor|skip
   all_goals first|simp[U,AK,hF,LN,Ge,Qm,B3,oy,hz,OA,he,hk,np,-Int.natCast_add]|simp[U,AK,hF,LN,Ge,Qm,B3,oy,hz,OA,he,-Int.natCast_add]
   all_goals refine FJ hρ U aq (e:=e) (b:=false) (n:=N[jn]) hT s8 hD hN (m:=m) (by omega) (aw.auto (hH:=by simp[fK,zX]) (hi:=by simp[fK,zX])) ?_
   all_goals rw[<- hH,<- hw,hR]
   all_goals exact cM
 have hdN:N.length+1+200*d<=10000:=by omega
 have zJs:((((d+1:Nat):Int))<1)=False:=eq_false (by omega);have E1:IntKind.i64.wrap (((d+1:Nat):Int)-1)=(d:Int):=by rw[wrap_i64 (by omega) (by omega)];omega
 have my:yz d t1 D (N++[[119]]) (d:Int)=some (gp d t1 D (N++[[119]])):=by unfold yz;rw[if_pos ⟨oR,hD,by simp;omega,by omega,by omega⟩];rfl
 have pL:R=((gp d t1 D (N++[[119]])).1,Xd [119] (gp d t1 D (N++[[119]])).2):=by rw[<- hR,gp,hq];simp only[];rw[if_pos (of_eq_true hk)]
 rcases we:gp d t1 D (N++[[119]])with⟨t2,y⟩;rw[we]at my pL;subst pL;have ir:=hT d rfl;rcases N with _|⟨n0,N⟩;simp at my;simp[U,AK,hF,zJs,hk,E1,ir,my,-Int.natCast_add];exact .inl (aJ.bw (hn:=by simp[Xd,bq,wI]));have g1:(N.length+1)*16<=1048576:=by simp at hdN;omega
 have g2:(N.length+1+1)*16<=1048576:=by simp at hdN;omega
 simp at my;simp[U,AK,hF,zJs,hk,E1,ir,my,g1,g2,bf,-Int.natCast_add];exact .inl (aJ.bw (hn:=by simp[Xd,bq,wI]));have zJs:((((d+1:Nat):Int))<1)=False:=eq_false (by omega);have B3:=bR.2 tw;have LN:=bR.2 BE;let⟨jd,Th,Qn⟩:=kc t1 D.length B3;have Iv:=yd t1 D.length oR (by omega) (by omega);have Hi:=iE oR D.length;rcases Rr:t1.next D.length with⟨tD,kD⟩;simp only[Rr]at Th Iv Hi;subst Th;let⟨jn,CM,Qm⟩:=kc tD N.length LN;have Ge:=yd tD N.length Hi (by omega) (by omega);have IN:=iE Hi N.length;rcases Lz:tD.next N.length with⟨tN,kN⟩;simp only[Lz]at CM Ge IN;subst CM;let⟨wk,C1,C0⟩:=hD.2 _ (ax Qn);have m1:jd*4 / 4=jd:=by omega
 have pL:R=((kI d tN D N D[jd].ctors D[jd].ctors.length).1,zM (zH N[jn]) (kI d tN D N D[jd].ctors D[jd].ctors.length).2):=by rw[<- hR,gp,hq];simp only[];rw[if_neg (by decide),if_pos ⟨rfl,tw,BE⟩];simp only[Rr,CE Qn,Lz,CE Qm]
 subst pL;generalize jz:D[jd]=dd at wk C1 C0 ⊢;have ir:=hT d rfl;simp[U,AK,hF,zJs,B3,LN,Iv,Qn,Ge,Qm,m1,jz,-Int.natCast_add];refine zjy hρ U aq (d:=d) (t:=tN) (dd:=dd) (k:=zX 1 N[jn]) ir IN hD hN BE C1 C0 (aw.auto (by simp[fK,zX,-Int.natCast_add]) (by simp[fK,zX,aT]) (by simp[fK,zX])) ?_;intro A hA hn;generalize kI d tN D N dd.ctors dd.ctors.length=R at hn ⊢;rcases A with _|⟨a,A⟩;have hn0:R.2=[]:=by simpa using hn.symm
 simp[U,fK];exact .inl (aJ.bw (hn:=by simp[zM,zH,bq,wI,zX,hn0]));have hv:gP [zX 1 N[jn]]=[bP (zH N[jn])]:=by simp[zX,zH,bq,wI]
 simp[U,fK];refine .inr (Cm.bw rfl rfl ?_ (by simp[qu]));simp[kV,zM,bq (.mk 8 _ _ _ _ _ _),wI,hv];simpa using hn
end
def zDA (d:Nat):Valid I Pg 22 (IQ (Je (yz d))):=by
 induction d using Nat.strongRecOn with
 | _ d ih =>
   refine s3 (fo Tryz.func22 zD.2) λs a b c q h C id hid hg=>?_;unfold yz at h;obtain⟨⟨M,O,h3,h4,h5⟩,rfl⟩:=bF h;obtain⟨e,rfl⟩:=bE h4;rw[bO]at h3 ⊢
   cases e with
   |zero=>exact JD hρ (E:=EL [(34,IQ (Jf Cn))]) rfl (aj (ae (zbN hρ) aH)) (e:=0) rfl (λd h=>by omega) M O h3 C id hid hg
   | succ e =>
     exact JD hρ (E:=EL [(34,IQ (Jf Cn)),(22,IQ (Je (yz e)))]) rfl (aj (ae (zbN hρ) (ae (ih e (by omega)) aH))) (e:=e+1) rfl (λd' h=>by
      obtain rfl:e=d':=by omega
      rfl) M O h3 C id hid hg
end
def zn0:J.Spec:=sI (zn3 11 λl:Z Xp=>if l.length<=5000 then some l.reverse else none)
section
variable {I:Nat->Value}(hρ:J.Good I)
include hρ
section
variable {E:Env}(U:E.P=Pg)(aq:bK I E)
include U aq
def SV:aS I Pg 195 [.a8] C (FP.v0.cw (news C.n FP.k FP.π)) (DV C FP.k FP.k' FP.π FP.cJ):=by
 refine em hρ U aq (D:=FP) Tryz.func195 iU.2 rfl zj1 ?_ (zj2 C);show Wp I E 0 _ _ _ { H:=dP [],n:=0,log:=[] } (J.Leaves E.P _ (aJ 0 (.tuple []) []));have hw:IntKind.i64.wrap (-1)=-1:=wrap_i64 (by decide) (by decide);simp[U,FP,hw];refine rA hρ U aq 0 (nn:=0) (λ_ (_:Unit)=>[(2,.int .i64 0),(3,.int .i64 (-1))]) (λ_ _=>[]) (λ_ _=>True) () (aw.auto) trivial ?_ (λi _ h=>by omega);intro _ _ K;simp[jI,U];refine bM.mk (aw.auto (TL:=[]) (HL:=[]) (n:=0)) ?_;simp[U];exact aJ.fC rfl rfl rfl (by simp)
def Uw{id:Nat}{l:Z Xp}(hl:l.length<=5000)(hg:C.H.get id=some (.arr 11 g (l.map bP) false false true))(hi:id<C.n) :
 aS I Pg 195 [.own id g 0 l.length none] C (.tuple []) (C.wr id (.arr 11 g (l.reverse.map bP) false false true)):=by
 have key:aS I Pg 195 [.own id g 0 l.length none] C ((Fj id g 11 (l.map bP) (l.reverse.map bP)).val C) ((Fj id g 11 (l.map bP) (l.reverse.map bP)).heap C):=by
  refine em hρ U aq (D:=Fj id g 11 (l.map bP) (l.reverse.map bP)) Tryz.func195 iU.2 rfl (zj3 (l:=l) (l':=l.reverse)) ?_ (zj4 (l:=l) hg hi);show Wp I E 1 _ _ ((PT.leaf).set 0 (.own 0 g 0 (l.map bP).length none)) { H:=dP [(0,.arr 11 g (l.map bP) false false true)],n:=1,log:=[] } (J.Leaves E.P _ (aJ 1 (.tuple []) [(0,.arr 11 g (l.reverse.map bP) false false true)]));rw[aN];have hw:IntKind.i64.wrap ((l.length:Int)-1)=(l.length:Int)-1-(0:Nat):=by rw[wrap_i64 (by omega) (by omega)];omega
  simp[U];rw[hw]
  refine rA hρ U aq (l.length / 2) (nn:=1) (λi (L:Z Xp)=>[(0,.own 0 g 0 l.length none),(2,.int .i64 (i:Int)),(3,.int .i64 ((l.length:Int)-1-(i:Int)))]) (λi L=>[(0,.arr 11 g (L.map bP) false false true)]) (λi L=>Mn l i L) l
   (aw.auto) (Mn.start l) ?_ ?_
  intro L hL K;have zQG:=hL.done (by omega);subst zQG;have hneg:¬ ((l.length / 2:Nat):Int)<(l.length:Int)-1-((l.length / 2:Nat):Int):=by omega
  generalize l.length / 2=h at hneg;simp[jI,U,hneg,-List.map_reverse];refine bM.mk (aw.auto (TL:=[]) (HL:=[(0,.arr 11 g (l.reverse.map bP) false false true)]) (n:=1) (hH:=by simp[-List.map_reverse])) ?_;simp[U,-List.map_reverse];exact aJ.fC rfl rfl rfl (by simp[-List.map_reverse]);intro i L hi hL K hK;have fX:=hL.1;have M:i<L.length:=by omega
  have O:l.length-1-i<L.length:=by omega
  have aE:=hK _ (hL.step (by omega) M O);obtain⟨j,hj⟩:∃ j,l.length-1-i=j:=⟨_,rfl⟩;have ej:(l.length:Int)-1-(i:Int)=(j:Int):=by omega
  have hw1:=bG (i:=i);have cr:IntKind.i64.wrap ((j:Int)-1)=(l.length:Int)-1-((i+1:Nat):Int):=by rw[wrap_i64 (by omega) (by omega)];omega
  simp only[hj]at aE O;rw[ej];have rI:(i:Int)<(j:Int):=by omega
  have i1:i<l.length:=by omega
  have j1:j<l.length:=by omega
  have m1:i*11 / 11=i:=by omega
  have m2:i*11 % 11=0:=by omega
  have m3:j*11 / 11=j:=by omega
  have m4:j*11 % 11=0:=by omega
  have cg:i≠j:=by omega
  have eX:(((L.map bP).set i (bP L[j])).set j (bP L[i]))=((L.set i L[j]).set j L[i]).map bP:=by simp[jX,-bq]
  generalize (L.set i L[j]).set j L[i]=X at aE eX;simp only[bq L[i],bq L[j]]at eX;simp[jI,U,rI,i1,j1,m1,m2,m3,m4,fX,hw1,cr,cg,List.getElem_set,eX,-Int.natCast_add];exact aE _ _ (aw.auto)
 have e:(Fj id g 11 (l.map bP) (l.reverse.map bP)).heap C=C.wr id (.arr 11 g (l.reverse.map bP) false false true):=P6 (l':=l.reverse);rw[e]at key;exact key
def NS  
 (hQ:Q (.exit 0) (dP [(1,.ptr 0 0 0),(2,.ptr 1 0 0),(4,oV 2 ((dE e).2.reverse.map bP))]) { H:=dP ([(0,.arr 11 0 [bP (dE e).1] true false false),(1,.arr 11 0 [fK] true false false)]++oH 2 11 ((dE e).2.reverse.map bP)),n:=3,log:=[] }) :
 ∀ (d:Nat) (x:Xp) (A:Z Xp),x.depth<=d->((dE x).1=(dE e).1/\A++(dE x).2.reverse=(dE e).2.reverse)->A.length+x.depth<=1001 ->
   v5 I E 0 29 nz (bM 0 Q) (d+1) (dP [(1,.ptr 0 0 0),(2,.ptr 1 0 0),(4,oV 2 (A.map bP))]) { H:=dP ([(0,.arr 11 0 [bP x] true false false),(1,.arr 11 0 [fK] true false false)]++oH 2 11 (A.map bP)),n:=3,log:=[] }:=by
 intro d
 induction d with
 |zero=>intro x A h;rw[Xp.iY]at h;omega
 | succ d ih =>
   intro x A h he hb;refine lp hρ U aq λK hK=>?_;by_cases ha:x.isApp=true
   . have hk:=Xp.WI ha;have M:=Xp.lH (Xp.G9 ha);rw[uq ha,q9,List.reverse_singleton]at he;have k5:=(Xp.xV.1 ha).1;have hE:=ih x.fn (A++[x.arg]) (by omega) ⟨he.1,by rw[fA];exact he.2⟩ (by simp;omega);have k1:∀ a B,A=a::B->(B.length+1+1)*152<=1048576:=(by rintro a B rfl;simp at hb;omega);generalize x.fn=f at hk hE;generalize x.arg=y at hk hE;rcases A with _|⟨a,A⟩
     all_goals first
      |simp[nz,U,eq_true k5,hk,k1 _ _ rfl,bf]
      |simp[nz,U,eq_true k5,hk]
     all_goals exact hK _ _ (gD (aw.auto (hH:=by simp[fK]) (hi:=by simp[fK])) hE)
   rw[rz ha,List.reverse_nil,fq]at he;rw[<- he.1,<- he.2]at hQ;by_cases k5:x.kind=5
   . have kA:¬ (x.kids.length:Int)=2:=λh=>ha (Xp.xV.2 ⟨k5,by omega⟩);rcases A with _|⟨a,A⟩<;>simp[nz,U,eq_true k5,kA]
     all_goals exact bM.mk (aw.auto (by simp[fK]) (by simp[fK]) (by simp[fK])) hQ
   . rcases A with _|⟨a,A⟩<;>simp[nz,U,eq_false k5]
     all_goals exact bM.mk (aw.auto (by simp[fK]) (by simp[fK]) (by simp[fK])) hQ
def Qa(hR:E.dA 195=zn0)(hd:e.depth<=1000)(C:HS):aS I Pg 118 [enc e] C (enc (dE e)) C:=by
 refine fn hρ U aq Tryz.func118 Ef.2 rfl (by simp) ?_ C;simp[U];have OR:=nS e;change Ls I E 0 _ (.loop nz) _ _ _;refine oJ (qy (gD (aw.auto (TL:=[(1,.ptr 0 0 0),(2,.ptr 1 0 0),(4,oV 2 (([]:Z Xp).map bP))]) (HL:=[(0,.arr 11 0 [bP e] true false false),(1,.arr 11 0 [fK] true false false)]++oH 2 11 (([]:Z Xp).map bP)) (n:=3) (hH:=by simp[fK]) (hi:=by simp[fK])) (NS hρ U aq (e:=e) ?_ e.depth e [] (af _) ⟨rfl,by simp⟩ (by simp;omega))));generalize dE e=R at OR;let⟨h,B⟩:=R;simp only at OR;obtain⟨A,rfl⟩:∃ A:Z Xp,B=A.reverse:=⟨B.reverse,by simp⟩;rw[qA];have zJr:A.length<=5000:=by have:=OR.2.2;simp at this;omega
 rcases A with _|⟨a,A⟩;simp[U,fK,hR,zn0];have zBW:=λ(C:HS) (id:Nat) (hg:C.H.get id=some (.arr 11 A.length ((a::A).map bP) false false true)) (hi:id<C.n)=>zn1 (sz:=11) (F:=λl:Z Xp=>if l.length<=5000 then some l.reverse else none) (id:=id) (g:=A.length) (n:=A.length+1) (C:=C) (l:=a::A) (l':=(a::A).reverse) hg rfl hi (if_pos zJr);have zQp:∀ (id g:Nat) (es:Z (Z V)) (l':Z Xp) (C:HS),(Fj id g 11 es (l'.map bP)).heap C=C.wr id (.arr 11 g (l'.map bP) false false true):=λ_ _ _ l' _=>P6 (l':=l');simp[U,fK,hR,zn0,-List.reverse_cons];rw[zBW _ 2 (by simp) (by simp)];simp[U,zQp,-List.reverse_cons,-List.map_reverse];rw[aP (by simp)];exact AU _
end
def zm2:Valid I Pg 195 zn0:=Valid.Ft (fo Tryz.func195 iU.2) λvs C D h=>by
 rcases zn2 h with⟨rfl,rfl⟩|⟨id,g,l,l',hF,rfl,rfl,hg,hi⟩;exact SV hρ (E:=EL []) rfl (aj aH);obtain⟨M,rfl⟩:=bF hF;have:=Uw hρ (E:=EL []) rfl (aj aH) M hg hi;have e:=P6 (α:=Xp) (id:=id) (g:=g) (sz:=11) (es:=l.map iI.cells) (l':=l.reverse) (C:=C);show aS I Pg _ _ C (.tuple []) (EmbD.heap (Fj id g 11 (l.map iI.cells) (l.reverse.map iI.cells)) C);rw[e];exact this
def Fb(e:Xp):Y (Xp×Z Xp):=if e.depth<=1000 then some (dE e)else none
def zmY:Valid I Pg 118 (dC (cz Fb)):=v1 (fo Tryz.func118 Ef.2) λa r h C=>by
 obtain⟨M,rfl⟩:=bF h;exact Qa hρ (E:=EL [(195,zn0)]) rfl (aj (ae (zm2 hρ) aH)) rfl M C
end
def gY(f:α->Bool):Z α->Int->Int
 | [],_=>-1
 |x::l,i=>if f x=true then i else gY f l (i+1)
def AZ(f:α->Bool):∀ (l:Z α) (i:Int),0<=i->decide (0<=gY f l i)=l.any f:=by
 intro l
 induction l with
 |nil=>intro i h;simp[gY]
 | cons y l ih =>
   intro i h;rw[gY];split;rename_i e;simp[e,h];rename_i e;rw[ih (i+1) (by omega)];simp[e]
def zkX(g:Nat)(F:Am->Y Bool)(vs:Z V):Y V:=match vs with
 | [a,.func g' []]=>gd (Nat.beq g' g) (ob (bo.dec a:Y (Z Am)) λl=>if l.length<=100000/\∀ x∈l,(F x).isSome=true then some (enc (gY (λx=>(F x).getD false) l 0))else none)
 |_=>none
def zlE(g:Nat)(F:Am->Y Bool)(vs:Z V):Y V:=match vs with
 | [a,.func g' []]=>gd (Nat.beq g' g) (ob (bo.dec a:Y (Z Am)) λl=>if l.length<=100000/\∀ x∈l,(F x).isSome=true then some (enc (l.any λx=>(F x).getD false))else none)
 |_=>none
section
variable {I:Nat->Value}(hρ:J.Good I)
include hρ
section
variable {E:Env}(U:E.P=Pg)(aq:bK I E)
include U aq
def ztM(hc:E.dA 117=dC (cz F)){l:Z Am}(hl:l.length<=100000)(b7:∀ x∈l,(F x).isSome=true)(C:HS) :
 aS I Pg 194 [enc l,.func 117 []] C (enc (gY (λx=>(F x).getD false) l 0)) C:=by
 refine fn hρ U aq Tryz.func194 kz.2 rfl (by simp) ?_ C;generalize hr:gY (λx=>(F x).getD false) l 0=r;simp[U]
 refine rA hρ U aq l.length (nn:=0) (λi (_:Unit)=>[(0,.sl (l.map dW) false),(1,.func 117 []),(7,.int .i64 (l.length:Int)),(8,.int .i64 (i:Int))]) (λi _=>[]) (λi _=>gY (λx=>(F x).getD false) (l.drop i) (i:Int)=r) ()
  (aw.auto) (by simpa using hr) ?_ ?_
 intro _ h K;rw[bz,gY]at h;simp[jJ,U];refine bM.mk (aw.auto (TL:=[]) (HL:=[]) (n:=0)) ?_;simp[U,<- h];intro i _ hi h K hK;have cm:(i:Int)<l.length:=by omega
 have cr:=bG (i:=i);have Aj:(i*14) / 14=i:=by omega
 let⟨q,hq⟩:=bQ.1 (b7 l[i] (ax hi));rw[aG hi,gY,hq]at h;simp only[eD]at h
 cases q with
 | true =>rw[if_pos rfl]at h;simp[jJ,U,hi,cm,Aj,hc,hq];refine bM.mk (aw.auto (TL:=[(4,.int .i64 (i:Int))]) (HL:=[]) (n:=0)) ?_;simp[U,<- h]
 | false =>
   rw[if_neg (by decide)]at h;have aE:=hK () h;simp[jJ,U,hi,cm,Aj,hc,hq,cr,-Int.natCast_add];exact aE _ _ (aw.auto)
def zuF(hc:E.dA 194=dC (zkX 117 F)){l:Z Am}(hl:l.length<=100000)(b7:∀ x∈l,(F x).isSome=true)(C:HS) :
 aS I Pg 116 [enc l,.func 117 []] C (enc (l.any λx=>(F x).getD false)) C:=by
 refine fn hρ U aq Tryz.func116 nA.2 rfl (by simp) ?_ C;have rK:=AZ (λx=>(F x).getD false) l 0 (fM _);have hv:zkX 117 F [enc l,.func 117 []]=some (enc (gY (λx=>(F x).getD false) l 0)):=by unfold zkX;show gd (Nat.beq _ _) (ob (bo.dec (enc l)) _)=_;rw[bo.dD,J.beq_true.2 rfl];show (if _ then _ else _)=_;rw[if_pos ⟨hl,b7⟩]
 generalize gY (λx=>(F x).getD false) l 0=x at rK hv;rw[<- rK];simp[U,hc];simp at hv;simp[hv,U]
end
def zKn(hv:Valid I Pg 117 (dC (cz F))):Valid I Pg 194 (dC (zkX 117 F)):=Valid.dC (fo Tryz.func194 kz.2) λvs v h C=>by
 unfold zkX at h;split at h;simp only[bI,J.beq_true,aC]at h;obtain⟨rfl,l,hl,h⟩:=h;obtain⟨⟨M,O⟩,rfl⟩:=bF h;rw[bo.bB _ _ hl];exact ztM hρ (E:=EL [(117,dC (cz F))]) rfl (aj (ae hv aH)) rfl M O C;cases h
def zKv(hv:Valid I Pg 117 (dC (cz F))):Valid I Pg 116 (dC (zlE 117 F)):=Valid.dC (fo Tryz.func116 nA.2) λvs v h C=>by
 unfold zlE at h;split at h;simp only[bI,J.beq_true,aC]at h;obtain⟨rfl,l,hl,h⟩:=h;obtain⟨⟨M,O⟩,rfl⟩:=bF h;rw[bo.bB _ _ hl];exact zuF hρ (E:=EL [(194,dC (zkX 117 F))]) rfl (aj (ae (zKn hρ hv) aH)) rfl M O C;cases h
end
def zkT(g:Nat)(F:Xp->Y Bool)(vs:Z V):Y V:=match vs with
 | [a,.func g' []]=>gd (Nat.beq g' g) (ob (bo.dec a:Y (Z Xp)) λl=>if l.length<=100000/\∀ x∈l,(F x).isSome=true then some (enc (gY (λx=>(F x).getD false) l 0))else none)
 |_=>none
def zlB(g:Nat)(F:Xp->Y Bool)(vs:Z V):Y V:=match vs with
 | [a,.func g' []]=>gd (Nat.beq g' g) (ob (bo.dec a:Y (Z Xp)) λl=>if l.length<=100000/\∀ x∈l,(F x).isSome=true then some (enc (l.any λx=>(F x).getD false))else none)
 |_=>none
section
variable {I:Nat->Value}(hρ:J.Good I)
include hρ
section
variable {E:Env}(U:E.P=Pg)(aq:bK I E)
include U aq
def ztG{F:Xp->Y Bool}(hc:E.dA 119=dC (cz F)){l:Z Xp}(hl:l.length<=100000)(b7:∀ x∈l,(F x).isSome=true)(C:HS) :
 aS I Pg 192 [enc l,.func 119 []] C (enc (gY (λx=>(F x).getD false) l 0)) C:=by
 refine fn hρ U aq Tryz.func192 gq.2 rfl (by simp) ?_ C;generalize hr:gY (λx=>(F x).getD false) l 0=r;simp[U]
 refine rA hρ U aq l.length (nn:=0) (λi (_:Unit)=>[(0,.sl (l.map bP) false),(1,.func 119 []),(7,.int .i64 (l.length:Int)),(8,.int .i64 (i:Int))]) (λi _=>[]) (λi _=>gY (λx=>(F x).getD false) (l.drop i) (i:Int)=r) ()
  (aw.auto) (by simpa using hr) ?_ ?_
 intro _ h K;rw[bz,gY]at h;simp[eB,U];refine bM.mk (aw.auto (TL:=[]) (HL:=[]) (n:=0)) ?_;simp[U,<- h];intro i _ hi h K hK;have cm:(i:Int)<l.length:=by omega
 have cr:=bG (i:=i);have Aj:(i*11) / 11=i:=by omega
 let⟨q,hq⟩:=bQ.1 (b7 l[i] (ax hi));rw[aG hi,gY,hq]at h;simp only[eD]at h
 cases q with
 | true =>rw[if_pos rfl]at h;simp[eB,U,hi,cm,Aj,hc,hq];refine bM.mk (aw.auto (TL:=[(4,.int .i64 (i:Int))]) (HL:=[]) (n:=0)) ?_;simp[U,<- h]
 | false =>
   rw[if_neg (by decide)]at h;have aE:=hK () h;simp[eB,U,hi,cm,Aj,hc,hq,cr,-Int.natCast_add];exact aE _ _ (aw.auto)
def zuB{F:Xp->Y Bool}(hc:E.dA 192=dC (zkT 119 F)){l:Z Xp}(hl:l.length<=100000)(b7:∀ x∈l,(F x).isSome=true)(C:HS) :
 aS I Pg 113 [enc l,.func 119 []] C (enc (l.any λx=>(F x).getD false)) C:=by
 refine fn hρ U aq Tryz.func113 gU.2 rfl (by simp) ?_ C;have rK:=AZ (λx=>(F x).getD false) l 0 (fM _);have hv:zkT 119 F [enc l,.func 119 []]=some (enc (gY (λx=>(F x).getD false) l 0)):=by unfold zkT;show gd (Nat.beq _ _) (ob (bo.dec (enc l)) _)=_;rw[bo.dD,J.beq_true.2 rfl];show (if _ then _ else _)=_;rw[if_pos ⟨hl,b7⟩]
 generalize gY (λx=>(F x).getD false) l 0=x at rK hv;rw[<- rK];simp[U,hc];simp at hv;simp[hv,U]
end
def zKj{F:Xp->Y Bool}(hv:Valid I Pg 119 (dC (cz F))):Valid I Pg 192 (dC (zkT 119 F)):=Valid.dC (fo Tryz.func192 gq.2) λvs v h C=>by
 unfold zkT at h;split at h;simp only[bI,J.beq_true,aC]at h;obtain⟨rfl,l,hl,h⟩:=h;obtain⟨⟨M,O⟩,rfl⟩:=bF h;rw[bo.bB _ _ hl];exact ztG hρ (E:=EL [(119,dC (cz F))]) rfl (aj (ae hv aH)) rfl M O C;cases h
def zKr{F:Xp->Y Bool}(hv:Valid I Pg 119 (dC (cz F))):Valid I Pg 113 (dC (zlB 119 F)):=Valid.dC (fo Tryz.func113 gU.2) λvs v h C=>by
 unfold zlB at h;split at h;simp only[bI,J.beq_true,aC]at h;obtain⟨rfl,l,hl,h⟩:=h;obtain⟨⟨M,O⟩,rfl⟩:=bF h;rw[bo.bB _ _ hl];exact zuB hρ (E:=EL [(192,dC (zkT 119 F))]) rfl (aj (ae (zKj hρ hv) aH)) rfl M O C;cases h
end
def Fg(d:Nat)(e:Xp):Y Bool:=if e.fit d then some (iL e)else none
def znO(d:Nat)(a:Am):Y Bool:=if a.body.fit d then some (!iL a.body)else none
def znN(d:Nat)(e:Xp):Y Bool:=if e.fit d then some (!iL e)else none
section
variable {I:Nat->Value}(hρ:J.Good I)
include hρ
section
variable {E:Env}(U:E.P=Pg)(aq:bK I E)
include U aq
def Ob(hS:E.dA 58=dC (cz (Fg d)))(h:a.body.fit d)(C:HS):aS I Pg 117 [enc a] C (enc (!iL a.body)) C:=by
 refine fn hρ U aq Tryz.func117 Gr.2 rfl (by simp) ?_ C;cases hv:iL a.body<;>simp[U,hS,Fg,h,hv]
def Oa(hS:E.dA 58=dC (cz (Fg d))){a:Xp}(h:a.fit d)(C:HS):aS I Pg 119 [enc a] C (enc (!iL a)) C:=by
 refine fn hρ U aq Tryz.func119 Gq.2 rfl (by simp) ?_ C;cases hv:iL a<;>simp[U,hS,Fg,h,hv]
def Qf(hS:E.dA 58=dC (cz (Fg d)))(hA:E.dA 116=dC (zlE 117 (znO d)))(hX:E.dA 113=dC (zlB 119 (znN d)))(hP:E.dA 118=dC (cz Fb))
  (he:e.fit (d+1)) (C:HS):aS I Pg 58 [enc e] C (enc (iL e)) C:=by
 refine fn hρ U aq Tryz.func58 Eg.2 rfl (by simp) ?_ C;rw[zV];let⟨w1,w2,_,_⟩:=Xp.Dk he.2.2;by_cases k1:e.kind=1;rw[if_pos (.inl k1)];simp[U,eq_true k1];by_cases k2:e.kind=2;rw[if_pos (.inr k2)];simp[U,eq_false k1,eq_true k2];rw[if_neg (by omega)];by_cases k4:e.kind=4;rw[if_pos k4];by_cases hl:e.kids.length=1;have hk:=Xp.N8 hl;have hf:e.fn.fit d:=he.kid (by rw[hk];simp);have vc:((e.kids.length:Int)=1)=True:=eq_true (by omega);simp[U,eq_false k1,eq_false k2,eq_true k4,hk,hS,Fg,hf];have vc:((e.kids.length:Int)=1)=False:=eq_false (by omega);simp[U,eq_false k1,eq_false k2,eq_true k4,hl,vc];rw[if_neg k4];by_cases k8:e.kind=8;rw[if_pos k8];have lz:zlE 117 (znO d) [(enc e.b8:V),.func 117 []]=some (enc (!e.b8.all λa=>iL a.body)):=by have hF:∀ a∈e.b8,znO d a=some (!iL a.body):=λa ha=>if_pos (he.arm ha);unfold zlE;show gd (Nat.beq _ _) (ob (bo.dec (enc e.b8:V):Y (Z Am)) _)=_;rw[bo.dD,J.beq_true.2 rfl];show (if _ then _ else _)=_;rw[if_pos ⟨w2,λx W=>by rw[hF x W];rfl⟩,WK (g:=λa=>!iL a.body) λx W=>by rw[hF x W];rfl,ziX]
 generalize (e.b8.all λa=>iL a.body)=b at lz ⊢;simp at lz;by_cases hl:e.kids.length=1;have hk:=Xp.N8 hl;by_cases hf:e.fn.kind=1;cases b<;>simp[U,eq_false k1,eq_false k2,eq_false k4,eq_true k8,hk,eq_true hf,hA,lz]
 simp[U,eq_false k1,eq_false k2,eq_false k4,eq_true k8,hk,eq_false hf];have vc:((e.kids.length:Int)=1)=False:=eq_false (by omega);simp[U,eq_false k1,eq_false k2,eq_false k4,eq_true k8,hl,vc];rw[if_neg k8];by_cases k5:e.kind=5;rw[if_pos k5];have tG:Fb e=some (dE e):=if_pos he.2.1;have lz:zlB 119 (znN d) [(enc (dE e).2:V),.func 119 []]=some (enc (!(dE e).2.all iL)):=by have hF:∀ a∈(dE e).2,znN d a=some (!iL a):=λa ha=>if_pos (he.arg ha);unfold zlB;show gd (Nat.beq _ _) (ob (bo.dec (enc (dE e).2:V):Y (Z Xp)) _)=_;rw[bo.dD,J.beq_true.2 rfl];show (if _ then _ else _)=_;rw[if_pos ⟨by have:=(nS e).2.2;have:=he.2.1;omega,λx W=>by rw[hF x W];rfl⟩,WK (g:=λa=>!iL a) λx W=>by rw[hF x W];rfl,ziX]
 generalize dE e=R at tG lz ⊢;let⟨h,A⟩:=R;simp only at lz ⊢;generalize A.all iL=b at lz ⊢;simp at lz;by_cases M:h.kind=1;cases b<;>simp[U,eq_false k1,eq_false k2,eq_false k4,eq_false k8,eq_true k5,hP,tG,eq_true M,hX,lz]
 by_cases O:h.kind=2;cases b<;>simp[U,eq_false k1,eq_false k2,eq_false k4,eq_false k8,eq_true k5,hP,tG,eq_false M,eq_true O,hX,lz]
 simp[U,eq_false k1,eq_false k2,eq_false k4,eq_false k8,eq_true k5,hP,tG,eq_false M,eq_false O];rw[if_neg k5];simp[U,eq_false k1,eq_false k2,eq_false k4,eq_false k8,eq_false k5]
end
theorem Xp.fit.pos(h:e.fit 0):False:=by have:=Xp.iY e;have:=h.1;omega
def zr5 (d:Nat):Valid I Pg 58 (dC (cz (Fg d))):=by
 induction d with
 |zero=>exact v1 (fo Tryz.func58 Eg.2) λa r h C=>by obtain⟨M,rfl⟩:=bF h;exact(Xp.fit.pos hρ M).elim
 | succ d ih =>
   have hA:=zKv hρ (F:=znO d) (v1 (fo Tryz.func117 Gr.2) λa r h C=>by obtain⟨M,rfl⟩:=bF h;exact Ob hρ (E:=EL [(58,dC (cz (Fg d)))]) rfl (aj (ae ih aH)) rfl M C);have hX:=zKr hρ (F:=znN d) (v1 (fo Tryz.func119 Gq.2) λa r h C=>by obtain⟨M,rfl⟩:=bF h;exact Oa hρ (E:=EL [(58,dC (cz (Fg d)))]) rfl (aj (ae ih aH)) rfl M C)
   exact v1 (fo Tryz.func58 Eg.2) λa r h C=>by
    obtain⟨M,rfl⟩:=bF h
    exact Qf hρ (E:=EL [(58,dC (cz (Fg d))),(116,dC (zlE 117 (znO d))),(113,dC (zlB 119 (znN d))),(118,dC (cz Fb))]) rfl
     (aj (ae ih (ae hA (ae hX (ae (zmY hρ) aH))))) rfl rfl rfl rfl M C
def ZK:J.Spec:=dC (cz λe:Xp=>if e.fit 1000 then some (iL e)else none)
def zxc:Valid I Pg 58 ZK:=zr5 hρ 1000
end
def vB(bits:Int)(b6:Z Int):EmbD where
 k:=0
 k':=1
 π:=λi=>i
 OL:=[]
 cJ:=[(0,box (iI.cells (gX b6 (bA bits)).2.2.2))]
 eb:=[enc bits,enc b6]
 v0:=.tuple [enc (bA bits),enc (gX b6 (bA bits)).1,enc (gX b6 (bA bits)).2.1,enc (gX b6 (bA bits)).2.2.1,.ptr 0 0 0]
def Oi(vs:Z V)(C:HS):Y EmbD:=match vs with
 | [bv,cv]=>ob (bo.dec bv:Y Int) λbits=>ob (bo.dec cv:Y (Z Int)) λb6=>gd (et (Nat.ble (dB b6) 60) (gW C C.n)) (some (vB bits b6))
 |_=>none
@[simp] def zBK {bv cv:V} :Oi [bv,cv] C=ob (bo.dec bv:Y Int) λbits=>ob (bo.dec cv:Y (Z Int)) λb6=>gd (et (Nat.ble (dB b6) 60) (gW C C.n)) (some (vB bits b6)):=(rfl)
def zcY{bits:Int}{g:G}(h:gX b6 (bA bits)=(l,g,e,t)):(vB bits b6).val C=.tuple [enc (bA bits),enc l,enc g,enc e,.ptr C.n 0 0]:=by
 have e0:(vB bits b6).v0=.tuple [enc (bA bits),enc l,enc g,enc e,.ptr 0 0 0]:=by show V.tuple _=_;rw[h]
 show (vB bits b6).v0.cw _=_;rw[e0];have hv:∀ (π:Nat->Nat) (t:G),(enc t:V).jr π=enc t:=λπ t=>V.uW (V.dU (Au t));have W:∀ (π:Nat->Nat),(enc e:V).jr π=enc e:=λπ=>V.uW (V.dU (show (enc e:V).pure=true by simp));show V.tuple [(enc (bA bits):V).jr _,(enc l:V).jr _,(enc g:V).jr _,(enc e:V).jr _,(V.ptr 0 0 0).jr _]=_;rw[hv,W];rfl
def zar{bits:Int}{g:G}(h:gX b6 (bA bits)=(l,g,e,t)):(vB bits b6).heap C={ H:=C.H.set C.n (box (iI.cells t)),n:=C.n+1,log:=C.n::C.log }:=by
 have e:(vB bits b6).cJ=[(0,box (iI.cells t))]:=by show [(0,_)]=_;rw[h]
 show DV C 0 1 _ (vB bits b6).cJ=_;rw[e];rfl
section
variable {I:Nat->Value}(hρ:J.Good I)
include hρ
section
variable {E:Env}(U:E.P=Pg)(aq:bK I E)
include U aq
def Vv(h3:E.dA 9=dC (cz λbits:Int=>some (bA bits)))(h4:E.dA 55=IQ (Jf zuA))(h5:E.dA 23=dC (cz λl:Z Entry=>if l.length<=10000 then some (l.map (·.name))else none))(h6:E.dA 22=IQ (Je (yz 3)))
 {bits:Int}  (hl:b6.length<=60)  (nN:C.H.get C.n=none) :
 aS I Pg 21 [enc bits,enc b6] C ((vB bits b6).v0.cw (news C.n 0 λi=>i)) (DV C 0 1 (λi=>i) (vB bits b6).cJ):=by
 have htp:(⟨b6,0⟩:Tp).ok:=⟨fM _,by show b6.length<=100000;omega⟩;have zMu:=EJ bits;have HQ:=EI bits;rcases hm:gX b6 (bA bits)with⟨rl,rg,re,rt⟩;have ka:(vB bits b6).v0=.tuple [enc (bA bits),enc rl,enc rg,enc re,.ptr 0 0 0]:=by show V.tuple _=_;rw[hm]
 have TR:(vB bits b6).cJ=[(0,box (iI.cells rt))]:=by show [(0,_)]=_;rw[hm]
 refine em hρ U aq (D:=vB bits b6) Tryz.func21 Pq.2 rfl ⟨rfl,rfl,aZ _,λp hp=>(by cases hp),λp hp=>?_,?_,λv hv=>?_⟩ ?_ ⟨rfl,λi j hi=>absurd hi (l9 _),λp hp=>(by cases hp),λi hi=>?_,λi hi=>absurd hi (l9 _)⟩;obtain rfl:=ag.1 hp;exact⟨rfl,rfl⟩;rw[ka,TR];show ([enc (bA bits),enc rl,enc rg,enc re,V.ptr 0 0 0].all (V.Ai _))=true;have hp:∀ t:G,(enc t:V).Ai (cx [(0,box (iI.cells rt))])=true:=λt=>V.dU (Au t);have hp2:(enc re:V).Ai (cx [(0,box (iI.cells rt))])=true:=V.dU (show (enc re:V).pure=true by simp);simp only[iG,rQ,fT,hp,hp2,gG];rfl;have hv:v∈[(enc bits:V),enc b6]:=hv;simp only[ay,aU,or_false]at hv;rcases hv with rfl|rfl<;>rfl
 rw[ka,TR];show Wp I E 0 _ _ _ { H:=dP [],n:=0,log:=[] } (J.Leaves _ _ (aJ 0 _ _));rw[show Tryz.f21.ntmps=33 from rfl];have f1:zuA ⟨b6,0⟩ (bA bits)=some (lW ⟨b6,0⟩ (bA bits)):=if_pos ⟨htp,zMu.1,zlA HQ⟩;let⟨c1,c2⟩:=EK (D:=bA bits) htp;unfold gX at hm;generalize zQK:bA bits=D at hm zMu f1 c1 c2 ⊢;generalize lW ⟨b6,0⟩ D=c at hm f1 c1 c2;let⟨t1,ctx,goal⟩:=c;simp only at hm c1 c2;have f2:yz 3 t1 D (ctx.map (·.name)) 3=some (gp 3 t1 D (ctx.map (·.name))):=by unfold yz;rw[if_pos ⟨c1,zMu,by simp;omega,by omega,by omega⟩];rfl
 have f3:ctx.length<=10000:=by omega
 rcases hq:gp 3 t1 D (ctx.map (·.name))with⟨t2,x⟩;rw[hq]at hm f2;cases hm;generalize hN:rl.map (·.name)=N at f2;simp[U,h3,zQK,h4,f1,h5,f3,hN,h6,f2];exact aJ.Mz (λk=>if k=0 then 7 else k) rfl rfl ⟨rfl,rfl⟩ (by simp);obtain rfl:i=0:=Nat.lt_one_iff.1 hi;exact nN
end
def zsc:Valid I Pg 21 (sI Oi):=Valid.Ft (fo Tryz.func21 Pq.2) λvs C D h=>by
 unfold Oi at h;split at h;simp only[aC,bI,dz,gM,aK,dH]at h;let⟨bits,hb,b6,hc,⟨M,O⟩,h⟩:=h;cases h;rw[bo.bB _ _ hb,bo.bB _ _ hc]
 exact Vv hρ (E:=EL [(9,dC (cz λbits:Int=>some (bA bits))),(55,IQ (Jf zuA)),(23,dC (cz λl:Z Entry=>if l.length<=10000 then some (l.map (·.name))else none)),(22,IQ (Je (yz 3)))]) rfl
  (aj (ae (zxn hρ) (ae (zm7 hρ) (ae (zxj hρ) (ae (zDA hρ 3) aH))))) rfl rfl rfl rfl M O
 cases h
end
def xJ(d:Nat)(t:G):Y Int:=if t.ok=true/\t.size<=d/\d<=4000000000000000000 then some (t.size:Int)else none
section
variable {I:Nat->Value}(hρ:J.Good I)
include hρ
section
variable {E:Env}(U:E.P=Pg)(aq:bK I E)
include U aq
def SK(hc:E.dA 104=dC (cz (xJ d)))(ld:d+1<=4000000000000000000){t:G}(ht:t.ok=true)(hd:t.size<=d+1)(C:HS):aS I Pg 104 [enc t] C (enc (t.size:Int)) C:=by
 refine fn hρ U aq Tryz.func104 Bd.2 rfl (by simp) ?_ C;have hlen:=G.yJ ht;have cd:=G.size_eq t;have eg:=(G.qH.1 ht).2;let⟨tk,tn,ti,th,tl⟩:=t;simp only[G.iT]at hlen cd eg;generalize (G.mk tk tn ti th tl).size=pS at cd hd;simp[U]
 refine rA hρ U aq tl.length (nn:=0) (λi (r:Nat)=>[(3,.int .i64 (r:Int)),(7,.sl (tl.map aA) false),(8,.int .i64 (tl.length:Int)),(9,.int .i64 (i:Int))]) (λ_ _=>[]) (λi r=>r+G.bj (tl.drop i)=pS) 1
  (aw.auto (hi:=by first|rfl|simp) (hk:=by first|rfl|simp)) (by simp;omega) ?_ ?_
 intro r h K;rw[bz,G.bj]at h;have e:r=pS:=by omega
 subst e;simp[Gm,U];refine bM.mk (aw.auto (TL:=[(3,.int .i64 (r:Int))]) (HL:=[]) (n:=0) (hi:=by first|rfl|simp) (hk:=by first|rfl|simp)) ?_;simp[U];intro i r hi h K hK;have cm:(i:Int)<tl.length:=by omega
 have cr:=bG (i:=i);rw[aG hi,G.bj]at h;have se:=eg _ (ax hi);obtain⟨x,W⟩:∃ x,tl[i]=x:=⟨_,rfl⟩;rw[W]at h se;have CD:x.size<=d:=by have:=G.FL (W ▸ ax hi:x∈tl);omega
 have hF:xJ d x=some (x.size:Int):=if_pos ⟨se,CD,by omega⟩;have aE:=hK (r+x.size) (by omega);have sC:IntKind.i64.wrap ((r:Int)+(x.size:Int))=((r+x.size:Nat):Int):=by rw[wrap_i64 (by omega) (by omega)];omega
 clear hK;generalize x.size=z at hF aE sC;cases x;simp[Gm,U,hi,cm,W,hc,hF,sC,cr,-Int.natCast_add];exact aE _ _ (aw.auto (hi:=by first|rfl|simp) (hk:=by first|rfl|simp))
end
def Zn(d:Nat):Valid I Pg 104 (dC (cz (xJ d))):=by
 induction d with
 | zero =>refine v1 (fo Tryz.func104 Bd.2) λa r h C=>?_;obtain⟨⟨M,O,h3⟩,rfl⟩:=bF h;have:=G.size_pos a;omega
 | succ d ih =>
   refine v1 (fo Tryz.func104 Bd.2) λa r h C=>?_;obtain⟨⟨M,O,h3⟩,rfl⟩:=bF h;exact SK hρ (E:=EL [(104,dC (cz (xJ d)))]) rfl (aj (ae ih aH)) rfl h3 M O C
end
def xU(f l:Nat)(s:Z Nat):Bool:=decide (1<=s.length)&&decide (s.length<=12)&&decide (f<=s.headD 0)&&decide (s.headD 0<=l)&&s.all DN&&decide (s ∉ pF)
theorem zcT(s:Z Nat):xU 97 122 s=jC s:=by
 rw[dI];rcases s with _|⟨c,s⟩;simp[xU,jC,XJ];simp only[xU,jC,XJ,sd,aW,decide_eq_true_eq,List.headD_cons,List.isEmpty_cons,Bool.not_false];grind
def zcS (s:Z Nat):xU 65 90 s=BL s:=by
 rw[dI];rcases s with _|⟨c,s⟩;simp[xU,BL,XJ];by_cases hk:(c::s)∈pF;have M:BL (c::s)=false:=by simp only[pF,ay,aU,or_false]at hk;rcases hk with e|e|e|e|e|e|e<;>rw[e]<;>rfl
 have O:xU 65 90 (c::s)=false:=by unfold xU;rw[decide_eq_false (by simpa using hk:¬ (c::s) ∉ pF)];simp
 rw[M,O];simp only[xU,BL,XJ,rN,aW,decide_eq_true_eq,List.headD_cons,List.isEmpty_cons,Bool.not_false];constructor;rintro ⟨⟨⟨⟨⟨a,b⟩,c⟩,d⟩,e⟩,f⟩;exact⟨⟨⟨e,trivial⟩,c,d⟩,b⟩;rintro ⟨⟨⟨e,_⟩,c,d⟩,b⟩;exact⟨⟨⟨⟨⟨by simp,b⟩,c⟩,d⟩,e⟩,hk⟩
def N3(s:Z Nat)(n:Int):Bool:=if s=[45,62]then decide (n=2)else if s=[73,110,116]then decide (n=0)else BL s&&decide (n<=4)
section
variable {I:Nat->Value}(hρ:J.Good I)
include hρ
section
variable {E:Env}(U:E.P=Pg)(aq:bK I E)
include U aq
def Uj{f l:vr}(hl:s.length<2^63)(C:HS):aS I Pg 184 [enc s,enc f,enc l] C (enc (xU f.n l.n s)) C:=by
 refine fn hρ U aq Tryz.func184 HV.2 rfl (by simp) ?_ C;let⟨f⟩:=f;let⟨l⟩:=l;by_cases h0:s=[];subst h0;simp[U,xU];have py:0<s.length:=bR.2 h0;have ziq:1<=s.length:=py;have ke:¬ (s.length:Int)<1:=by omega
 by_cases HR:s.length<=12
 case neg =>
  have zf1:(12:Int)<s.length:=by omega
  simp[U,xU,ke,HR,zf1]
 have zf1:¬ (12:Int)<s.length:=by omega
 have hhd:s.headD 0=s[0]:=by rcases s with _|⟨c,s⟩;exact absurd rfl h0;rfl
 by_cases hf:f<=s[0]
 case neg =>
  have Bx:(s[0]:Int)<f:=by omega
  have hz:xU f l s=false:=by unfold xU;rw[hhd,decide_eq_false hf];simp
  simp[U,hz,ke,HR,zf1,py,ziq,hf,Bx]
 have Bx:¬ (s[0]:Int)<f:=by omega
 by_cases hg:s[0]<=l
 case neg =>
  have hg':(l:Int)<s[0]:=by omega
  have hz:xU f l s=false:=by unfold xU;rw[hhd,decide_eq_false hg];simp
  simp[U,hz,ke,HR,zf1,py,ziq,hf,Bx,hg,hg']
 have hg':¬ (l:Int)<s[0]:=by omega
 have oj:xU f l s=(s.all DN&&decide (s ∉ pF)):=by unfold xU;rw[hhd,decide_eq_true ziq,decide_eq_true HR,decide_eq_true hf,decide_eq_true hg];rfl
 generalize hr:xU f l s=r at oj;simp[U,ke,zf1,py,Bx,hg']
 refine rA hρ U aq s.length (nn:=0) (λi (_:Unit)=>[(0,.str s),(31,.int .i64 (s.length:Int)),(32,.int .i64 (i:Int))]) (λi _=>[]) (λi _=>(s.take i).all DN=true) ()
  (aw.auto) (by simp) ?_ ?_
 intro _ he K;rw[gm]at he;rw[he,gG]at oj;subst oj;simp[Ce,U];refine bM.mk (aw.auto (TL:=[(0,.str s)]) (HL:=[]) (n:=0)) ?_;clear hr hhd hf Bx hg hg' he HR zf1 py ziq ke hl;by_cases k1:s=[100,97,116,97];subst k1;simp[U,pF];by_cases k2:s=[108,101,116];subst k2;simp[U,pF];by_cases k3:s=[114,101,99];subst k3;simp[U,pF];by_cases k4:s=[105,110];subst k4;simp[U,pF];by_cases k5:s=[99,97,115,101];subst k5;simp[U,pF];by_cases k6:s=[111,102];subst k6;simp[U,pF];by_cases k7:s=[101,110,100];subst k7;simp[U,pF];simp[U,pF,k1,k2,k3,k4,k5,k6,k7]
 . intro i _ hi he K hK;have cm:(i:Int)<s.length:=(by omega);have cr:=bG (i:=i);have S6:DN s[i]=true->(s.take (i+1)).all DN=true:=λhb=>(by rw[dS,az hi,List.all_append,he];simp[hb]);have PC:DN s[i]=false->r=false:=λhb=>(by rw[oj,List.all_eq_false.2 ⟨_,ax hi,by simp[hb]⟩,sK]);clear hr oj hhd hf Bx hg hg' he HR zf1 ke;have q1:((97:Int)<=(s[i]:Int))↔97<=s[i]:=(by omega);have q2:((s[i]:Int)<=122)↔s[i]<=122:=(by omega);have q3:((65:Int)<=(s[i]:Int))↔65<=s[i]:=(by omega);have q4:((s[i]:Int)<=90)↔s[i]<=90:=(by omega);have q5:((s[i]:Int)<48)↔¬ 48<=s[i]:=(by omega);have q6:((57:Int)<(s[i]:Int))↔¬ s[i]<=57:=(by omega);have q7:((s[i]:Int)=95)↔s[i]=95:=(by omega);have aE:=λh=>hK () (S6 h);clear hK S6;by_cases a1:97<=s[i]<;>by_cases a2:s[i]<=122<;>by_cases a3:65<=s[i]<;>by_cases a4:s[i]<=90<;>try omega
   all_goals by_cases a5:48<=s[i]<;>by_cases a6:s[i]<=57<;>by_cases a7:s[i]=95<;>try omega
   all_goals
    first
    | (have hb:DN s[i]=true:=by simp[DN,sd,rN,zgi,a1,a2,a3,a4,a5,a6,a7]
       have aE:=aE hb;clear PC hb;simp[Ce,U,hi,cm,cr,q1,q2,q3,q4,q5,q6,q7,a1,a2,a3,a4,a5,a6,a7,-Int.natCast_add]
       exact aE _ _ (aw.auto))
    | (have hb:DN s[i]=false:=by simp[DN,sd,rN,zgi,a1,a2,a3,a4,a5,a6,a7]
       have PC:=PC hb;subst PC;clear aE hb;simp[Ce,U,hi,cm,cr,q1,q2,q3,q4,q5,q6,q7,a1,a2,a3,a4,a5,a6,a7,-Int.natCast_add];refine bM.mk (aw.auto (TL:=[(6,.bool false)]) (HL:=[]) (n:=0)) ?_
       simp[U])
def IA(hN:E.dA 184=dC (zN λ(s:Z Nat) (f l:vr)=>if s.length<2^63 then some (xU f.n l.n s)else none)){n:Int}(hl:s.length<2^63)(C:HS):aS I Pg 185 [enc s,enc n] C (enc (N3 s n)) C:=by
 refine fn hρ U aq Tryz.func185 Cv.2 rfl (by simp) ?_ C;simp only[show (2:Nat)^63=9223372036854775808 from rfl]at hN hl;have d1:(bo.dec (V.int .u8 65):Y vr)=some ⟨65⟩:=rfl;have d2:(bo.dec (V.int .u8 90):Y vr)=some ⟨90⟩:=rfl;by_cases ha:s=[45,62];subst ha;simp[U,N3];by_cases hb:s=[73,110,116];subst hb;simp[U,N3];have hu:=zcS s;cases hc:BL s<;>rw[hc]at hu<;>simp[U,N3,ha,hb,hN,hl,d1,d2,hu,hc]
end
def zcR:J.Spec:=dC (zN λ(s:Z Nat) (f l:vr)=>if s.length<2^63 then some (xU f.n l.n s)else none)
def zvH:Valid I Pg 184 zcR:=v3 (fo Tryz.func184 HV.2) λa b c r h C=>by
 obtain⟨M,rfl⟩:=bF h;exact Uj hρ (E:=EL []) rfl (aj aH) M C
def ziH:J.Spec:=dC (cB λ(s:Z Nat) (n:Int)=>if s.length<2^63 then some (N3 s n)else none)
def Zr:Valid I Pg 185 ziH:=v2 (fo Tryz.func185 Cv.2) λa b r h C=>by
 obtain⟨M,rfl⟩:=bF h;exact IA hρ (E:=EL [(184,zcR)]) rfl (aj (ae (zvH hρ) aH)) rfl M C
end
def zu9(l:Z G):(l.any λt=>!t.valid)=!G.rq l:=by
 induction l with
 |nil=>rfl
 |cons t l ih=>simp only[qD,ih,G.rq,Bool.not_and]
def zeZ{l:Z G}(h:G.su l=true){t:G}(ht:t∈l):t.short=true:=G.ze0.1 h t ht
def oM(d:Nat):J.Spec:=dC (cz λt:G=>if t.size<=d/\t.short=true then some t.valid else none)
def ztQ(d:Nat)(t:G):Y Bool:=if t.size<=d/\t.short=true then some (!t.valid)else none
def Yn(g d:Nat)(vs:Z V):Y V:=match vs with
 | [a,.func g' []]=>gd (Nat.beq g' g) (ob (bo.dec a:Y (Z G)) λl=>if l.length<=100000/\G.bj l<=d/\G.su l=true then some (enc (gY (λt:G=>!t.valid) l 0))else none)
 |_=>none
def Ou(g d:Nat)(vs:Z V):Y V:=match vs with
 | [a,.func g' []]=>gd (Nat.beq g' g) (ob (bo.dec a:Y (Z G)) λl=>if l.length<=100000/\G.bj l<=d/\G.su l=true then some (enc (!G.rq l))else none)
 |_=>none
def zkZ(h:Yn g d vs=some v):∃ l:Z G,vs=[enc l,.func g []]/\l.length<=100000/\G.bj l<=d/\G.su l=true/\v=enc (gY (λt:G=>!t.valid) l 0):=by
 unfold Yn at h;split at h;simp only[bI,aC,J.beq_true]at h;obtain⟨rfl,l,hl,h⟩:=h;obtain⟨⟨M,O,h3⟩,rfl⟩:=bF h;exact⟨l,by rw[bo.bB _ _ hl],M,O,h3,rfl⟩;cases h
def zk0(h:Ou g d vs=some v):∃ l:Z G,vs=[enc l,.func g []]/\l.length<=100000/\G.bj l<=d/\G.su l=true/\v=enc (!G.rq l):=by
 unfold Ou at h;split at h;simp only[bI,aC,J.beq_true]at h;obtain⟨rfl,l,hl,h⟩:=h;obtain⟨⟨M,O,h3⟩,rfl⟩:=bF h;exact⟨l,by rw[bo.bB _ _ hl],M,O,h3,rfl⟩;cases h
section
variable {I:Nat->Value}(hρ:J.Good I)
include hρ
section
variable {E:Env}(U:E.P=Pg)(aq:bK I E)
include U aq
def Nr(hc:E.dA 102=oM d){t:G}(M:t.size<=d)(O:t.short=true)(C:HS):aS I Pg 186 [enc t] C (enc (!t.valid)) C:=by
 refine fn hρ U aq Tryz.func186 Iq.2 rfl (by simp) ?_ C;cases hv:t.valid<;>simp[U,hc,oM,M,O,hv]
def zay(hc:E.dA 186=dC (cz (ztQ d))){l:Z G}(hl:l.length<=100000)(hd:G.bj l<=d)(oT:G.su l=true)(C:HS) :
 aS I Pg 205 [enc l,.func 186 []] C (enc (gY (λt:G=>!t.valid) l 0)) C:=by
 refine fn hρ U aq Tryz.func205 bL.2 rfl (by simp) ?_ C;generalize hr:gY (λt:G=>!t.valid) l 0=r;simp[U]
 refine rA hρ U aq l.length (nn:=0) (λi (_:Unit)=>[(0,.sl (l.map aA) false),(1,.func 186 []),(7,.int .i64 (l.length:Int)),(8,.int .i64 (i:Int))]) (λi _=>[]) (λi _=>gY (λt:G=>!t.valid) (l.drop i) (i:Int)=r) ()
  (aw.auto) (by simpa using hr) ?_ ?_
 intro _ h K;rw[bz,gY]at h;simp[bD,U];refine bM.mk (aw.auto (TL:=[]) (HL:=[]) (n:=0)) ?_;simp[U,<- h];intro i _ hi h K hK;have cm:(i:Int)<l.length:=by omega
 have cr:=bG (i:=i);have eE:=ax hi;have Aj:(i*5) / 5=i:=by omega
 have Nl:(i*5) % 5=0:=by omega
 have hF:ztQ d l[i]=some (!l[i].valid):=if_pos ⟨by have:=G.FL eE;omega,zeZ oT eE⟩;rw[aG hi,gY]at h
 cases hv:l[i].valid with
 | false =>simp only[hv,Bool.not_false,↓reduceIte]at h hF;simp[bD,U,hi,cm,Aj,Nl,hc,hF];refine bM.mk (aw.auto (TL:=[(4,.int .i64 (i:Int))]) (HL:=[]) (n:=0)) ?_;simp[U,<- h]
 | true =>
   simp only[hv,Bool.not_true,lU,↓reduceIte]at h hF;have aE:=hK () h;simp[bD,U,hi,cm,Aj,Nl,hc,hF,cr,-Int.natCast_add];exact aE _ _ (aw.auto)
def Ti(hc:E.dA 205=dC (Yn 186 d)){l:Z G}(hl:l.length<=100000)(hd:G.bj l<=d)(oT:G.su l=true)(C:HS) :
 aS I Pg 130 [enc l,.func 186 []] C (enc (!G.rq l)) C:=by
 refine fn hρ U aq Tryz.func130 bY.2 rfl (by simp) ?_ C;have rK:=AZ (λt:G=>!t.valid) l 0 (fM _);rw[zu9]at rK;generalize W:gY (λt:G=>!t.valid) l 0=x at rK;rw[<- rK];simp[U,hc,Yn,hl,hd,oT,W]
theorem SI  (hN:E.dA 184=zcR) (hK:E.dA 185=ziH) (hC:E.dA 130=dC (Ou 186 d))
 {t:G} (ht:t.size<=d+1) (fX:t.args.length<=100000) (oT:t.short=true) (C:HS):aS I Pg 102 [enc t] C (enc t.valid) C:=by
 refine fn hρ U aq Tryz.func102 FD.2 rfl (by simp) ?_ C;have xa:=G.size_eq t;let⟨oA,zpb⟩:=G.zjP.1 oT;let⟨k,nm,i,h,l⟩:=t;simp only[G.j4,G.iT]at oA fX zpb xa;have hd:G.bj l<=d:=by omega
 clear xa ht oT;have d1:(bo.dec (V.int .u8 97):Y vr)=some ⟨97⟩:=rfl;have d2:(bo.dec (V.int .u8 122):Y vr)=some ⟨122⟩:=rfl;have HI:=zcT nm;have oB:((l.length:Int)=0)↔l=[]:=by simp_all
 simp only[zcR,ziH,show (2:Nat)^63=9223372036854775808 from rfl]at hN hK oA;by_cases M:k=1;subst M;by_cases hn:nm=[]<;>by_cases sX:l=[]<;>by_cases sY:0<=i<;>by_cases ra:i<=1000000<;>by_cases hh:h=0<;>simp[U,G.valid,oB,hn,sX,sY,ra,hh]
 by_cases O:k=2;subst O;by_cases hn:nm=[]<;>by_cases sX:l=[]<;>by_cases sY:0<=i<;>by_cases ra:i<=1000000<;>by_cases hh:h=0<;>simp[U,G.valid,oB,hn,sX,sY,ra,hh]
 by_cases h3:k=3;subst h3;by_cases hn:nm=[]<;>by_cases sX:l=[]<;>by_cases sY:0<=i<;>by_cases ra:i<=1000000<;>by_cases hh:-1<=h<;>by_cases zBY:h<=1000000<;>simp[U,G.valid,oB,hn,sX,sY,ra,hh,zBY]
 by_cases h5:k=5;subst h5
 have hv:G.valid (.mk 5 nm i h l)=(decide (l=[])&&decide (i=0)&&decide (h=0)&&jC nm):=by
  have sX:decide (l.length=0)=decide (l=[]):=by rw[dI];simp
  grind [G.valid]
 rw[hv];by_cases hi0:i=0;subst hi0;by_cases hn:nm=[];subst hn;have zI8:jC []=false:=rfl;rw[zI8]at HI;by_cases sX:l=[]<;>by_cases hh:h=0<;>simp[U,oB,sX,hh,hN,oA,d1,d2,HI,zI8]
 cases zI8:jC nm<;>rw[zI8]at HI<;>by_cases sX:l=[]<;>by_cases hh:h=0<;>simp[U,oB,hn,sX,hh,hN,oA,d1,d2,HI]
 by_cases hn:nm=[]<;>by_cases sX:l=[]<;>by_cases sY:0<=i<;>by_cases ra:i<=1000000<;>simp[U,oB,hn,sX,sY,ra,hi0]
 by_cases h4:k=4;subst h4
 have hv:G.valid (.mk 4 nm i h l)=(decide (i=0)&&decide (h=0)&&N3 nm (l.length:Int)&&G.rq l):=by
  have q2:((l.length:Int)=2)↔l.length=2:=by omega
  have q0:((l.length:Int)=0)↔l.length=0:=by omega
  have q4:((l.length:Int)<=4)↔l.length<=4:=by omega
  simp only[G.valid,N3,show ¬ ((4:Int)=1\/(4:Int)=2) by decide,show ¬ (4:Int)=3 by decide,show ¬ (4:Int)=5 by decide,↓reduceIte,q2,q0,q4];grind
 rw[hv];clear HI d1 d2;by_cases hi0:i=0;subst hi0;by_cases hh:h=0;subst hh;generalize cR:N3 nm (l.length:Int)=c;generalize lE:G.rq l=v;by_cases sX:l=[];subst sX;have hcn':N3 nm 0=c:=cR;have ka:v=true:=lE.symm;subst ka;have hd0:G.bj []<=d:=hd;by_cases hn:nm=[];subst hn;cases c<;>simp[U,hK,oA,hcn',hC,Ou,hd0,zpb,lE]
 cases c<;>simp[U,hn,hK,oA,hcn',hC,Ou,hd0,zpb,lE]
 by_cases hn:nm=[];subst hn;cases c<;>cases v<;>simp[U,oB,sX,hK,oA,cR,hC,Ou,fX,hd,zpb,lE]
 cases c<;>cases v<;>simp[U,oB,hn,sX,hK,oA,cR,hC,Ou,fX,hd,zpb,lE]
 by_cases hn:nm=[]<;>by_cases sX:l=[]<;>simp[U,oB,hn,sX,hh]
 by_cases hn:nm=[]<;>by_cases sX:l=[]<;>by_cases sY:0<=i<;>by_cases ra:i<=1000000<;>simp[U,oB,hn,sX,sY,ra,hi0]
 have hv:G.valid (.mk k nm i h l)=false:=by simp[G.valid,M,O,h3,h4,h5]
 rw[hv];by_cases hn:nm=[]<;>by_cases sX:l=[]<;>by_cases sY:0<=i<;>by_cases ra:i<=1000000<;>simp[U,oB,hn,sX,sY,ra,M,O,h3,h4,h5]
end
def TG(d:Nat)(hd:d<=100000):Valid I Pg 102 (oM d):=by
 induction d with
 | zero =>refine v1 (fo Tryz.func102 FD.2) λa r h C=>?_;obtain⟨⟨M,O⟩,rfl⟩:=bF h;have:=G.size_eq a;omega
 | succ d ih =>
   refine v1 (fo Tryz.func102 FD.2) λa r h C=>?_;obtain⟨⟨M,O⟩,rfl⟩:=bF h;have hI:Valid I Pg 186 (dC (cz (ztQ d))):=v1 (fo Tryz.func186 Iq.2) λa r h C=>(by obtain⟨⟨g1,g2⟩,rfl⟩:=bF h;exact Nr hρ (E:=EL [(102,oM d)]) rfl (aj (ae (ih (by omega)) aH)) rfl g1 g2 C);have hX:Valid I Pg 205 (dC (Yn 186 d)):=Valid.dC (fo Tryz.func205 bL.2) λvs v hv C=>(by obtain⟨l,rfl,g1,g2,g3,rfl⟩:=zkZ hv;exact zay hρ (E:=EL [(186,dC (cz (ztQ d)))]) rfl (aj (ae hI aH)) rfl g1 g2 g3 C);have hC:Valid I Pg 130 (dC (Ou 186 d)):=Valid.dC (fo Tryz.func130 bY.2) λvs v hv C=>by obtain⟨l,rfl,g1,g2,g3,rfl⟩:=zk0 hv;exact Ti hρ (E:=EL [(205,dC (Yn 186 d))]) rfl (aj (ae hX aH)) rfl g1 g2 g3 C
   refine SI hρ (E:=EL [(184,zcR),(185,ziH),(130,dC (Ou 186 d))]) rfl
    (aj (ae (zvH hρ) (ae (Zr hρ) (ae hC aH)))) rfl rfl rfl M ?_ O C
   have:=G.size_eq a;have:=ziT a.args;omega
end
end Go.Proofs.YtfloillkpbhhhaaGreat
