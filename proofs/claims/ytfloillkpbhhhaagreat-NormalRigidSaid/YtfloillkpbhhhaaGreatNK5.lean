import Derived.Test.YtfloillkpbhhhaaGreatNK4
import Derived.Test.YtfloillkpbhhhaaGreatJK10
import Derived.Test.YtfloillkpbhhhaaGreatJK11
import Derived.Test.YtfloillkpbhhhaaGreatJK8
set_option linter.all false
noncomputable section
namespace Go.Proofs.YtfloillkpbhhhaaGreat
open Go.J
open Go.J.bo (enc)
set_option maxRecDepth 100000
set_option maxHeartbeats 4000000
variable {b r:Bool}{Q:Ex->PT V->HS->Prop}{t v x y:G}{C:HS}{c e h:Int}{G2 g:MG}{n:MN}{s:MS}{a a0 a2 b0 b2 d f k:Nat}{I:Nat->Value}{T:PT V}{P:Program}{q:V×MS}{mR tr eJ cw uc:Z Change}{sl cS da cY cR:Z Slot}{l:Z bQ}
section
variable (hρ:J.Good I)
include hρ
section
variable {E:Env}(U:E.P=Pg)(aq:bH I E)
include U aq
def Ow{xk xi xh yk yi yh:Int}{xn yn:Z Nat}{xl yl:Z G}(hl:xl.length=yl.length)(fX:xl.length<=1000000){sz:Nat}(hk:k=4)(b8:sz=164)
 (hT:aw k T C (dW [(12,.own 6 0 0 xl.length (some xl.length)),(6,.ptr 4 0 0),(7,.ptr 5 0 0),(144,.int .i64 (xl.length:Int)),(145,.int .i64 ((0:Nat):Int))]) { H:=dW (fB sl tr g++[(4,.arr 5 0 [[.int .i64 xk,.str xn,.int .i64 xi,.int .i64 xh,.sl (xl.map au) false]] true false false),(5,.arr 5 0 [[.int .i64 yk,.str yn,.int .i64 yi,.int .i64 yh,.sl (yl.map au) false]] true false false)]++[(6,YF [] xl.length)]),n:=8,log:=[] })
 (hQ:Q (.exit 1) (dW [(12,.own 6 0 0 xl.length (some xl.length))]) { H:=dW (fB sl tr g++[(6,YF (Q7 xl yl) 0)]),n:=8,log:=[] }) :
 Ls I E k sz (.loop uF) T C Q:=by
 subst hk b8;obtain⟨ga,gb,gn,cV⟩:=g
 refine vC hρ U aq xl.length (nn:=8) (λi (_:Unit)=>[(12,.own 6 0 0 xl.length (some xl.length)),(6,.ptr 4 0 0),(7,.ptr 5 0 0),(144,.int .i64 (xl.length:Int)),(145,.int .i64 (i:Int))])
  (λi _=>fB sl tr ⟨ga,gb,gn,cV⟩++[(4,.arr 5 0 [[.int .i64 xk,.str xn,.int .i64 xi,.int .i64 xh,.sl (xl.map au) false]] true false false),(5,.arr 5 0 [[.int .i64 yk,.str yn,.int .i64 yi,.int .i64 yh,.sl (yl.map au) false]] true false false)]++[(6,YF ((Q7 xl yl).take i) (xl.length-i))]) (λ_ _=>True) () (by simpa using hT) trivial ?_ ?_
 . intro _ _ K;rw[aZ (by rw[Sq hl];exact af _),lh];simp[cV,uF,U,fB,YF];refine bO.mk (aw.auto ?_ ?_ ?_ ?_) hQ
   . simp[fB]
   . simp[fB,YF]
   . simp[fB]
   . simp[fB]<;>(intro x hx;first|omega|exact⟨.inl hx,by omega⟩)
 . intro i _ hi _ K hK;have cj:(i:Int)<xl.length:=by omega
   have pP:i<yl.length:=by omega
   have hw:IntKind.i64.wrap ((i:Int)+1)=((i+1:Nat):Int):=bI (by omega);have zN:(i*5) / 5=i:=by omega
   have zNV:(i*10) / 10=i:=by omega
   have zNU:(i*10) % 10=0:=by omega
   have bc:=hK () trivial;have zKk:i=((Q7 xl yl).take i).length:=by rw[eB,Sq hl];omega
   obtain⟨n,hn⟩:∃ n,xl.length-i=n+1:=⟨xl.length-i-1,by omega⟩;have tw:xl.length-(i+1)=n:=by omega
   have t1:=zmg (n:=n) zKk;have t2:=zrq (n:=n) (y:=⟨xl[i],yl[i]⟩) zKk;rw[zh1 hi pP,tw]at bc;rw[hn];generalize (Q7 xl yl).take i=L at t1 t2 bc zKk;obtain⟨u,hu⟩:∃ u,xl[i]=u:=⟨_,rfl⟩;obtain⟨v,hv⟩:∃ v,yl[i]=v:=⟨_,rfl⟩;rw[hu,hv]at t2 bc;obtain⟨uk,un,ui,uh,ul⟩:=u;obtain⟨vk,vn,vi,vh,vl⟩:=v;simp only[cZ,I2,G.fw,G.jC,G.o5,G.sJ,G.fC]at t1 t2;simp[cV,uF,U,fB,YF,I2,hi,cj,pP,hu,hv,zNV,zNU,hw,t1,t2,-Int.natCast_add,-List.map_append];exact bc _ _ (aw.auto (by simp[fB,-Int.natCast_add]) (by simp[fB,YF,I2]) (by simp[fB]) (by simp[fB]<;>(intro x hx;first|omega|exact⟨.inl hx,by omega⟩)))
def VQ  (hZ:E.dE 132=pR) (hW:E.dE 199=yq KA (wA (E2 Ie))) (Rv:E.dE 273=w5 (Gi Iw)) (hJ:E.dE 274=eY (Gi Ut)) (hB:E.dE 275=eY (Gi (Vp d)))    {a b:G} (er:ao.E9 d ⟨sl,tr⟩ a b)    {ex:Z Change} (h:ao.je ⟨sl,tr⟩ a b=(l,e,⟨cS,tr++ex⟩)) :
 Wp I E 4 164 sP.1 ((PT.leaf.set 0 (.ptr 0 0 0)).set 1 (enc (⟨a,b⟩:bQ))) { H:=dW (fB sl tr g),n:=4,log:=[] } (J.Leaves E.P Tryz.f263 λv C=>aH 4 (.tuple [enc l,.int .i64 e]) (fB cS (tr++ex) (g.add ex.length)) v C\/vZ 4 (.tuple [enc l,.int .i64 e]) (fB cS (tr++ex) (g.add ex.length)) v C):=by
 obtain⟨ga,gb,gn,cV⟩:=g;obtain⟨ir,ob,Oo,KB,wc⟩:=er;have e2:(max (200:Int) 0).toNat=200:=rfl;have la:sl.length<=1000:=ir.1;have h6:sl.length<=1000000:=by omega
 have kq:∀ {n:Int},(([]:Z bQ),n,(⟨sl,tr⟩:ao))=(l,e,⟨cS,tr++ex⟩)->l=[]/\e=n/\sl=cS/\ex=[]:=by
  intro n hh;obtain⟨M,O⟩:=cB hh;obtain⟨h3,h4⟩:=cB O;obtain⟨h5,h6⟩:=ao.mk.inj h4;have h7:ex=[]:=by simpa using h6
  exact⟨M.symm,h3.symm,h5,h7⟩
 unfold ao.je at h;obtain⟨na,UY⟩:∃ n,sz (ao.w ⟨sl,tr⟩) a 200=n:=⟨_,rfl⟩;obtain⟨nb,Wj⟩:∃ n,sz (ao.w ⟨sl,tr⟩) b 200=n:=⟨_,rfl⟩;have hfa:na<=200->∃ r,Rz (ao.w ⟨sl,tr⟩) a r/\r.size<=200:=λhn=>zgs.1 (by rw[UY];exact hn)
 rw[UY,Wj]at h;obtain⟨x,Kn⟩:∃ x,ao.w ⟨sl,tr⟩ a=x:=⟨_,rfl⟩;obtain⟨y,nw⟩:∃ y,ao.w ⟨sl,tr⟩ b=y:=⟨_,rfl⟩;rw[Kn,nw]at h wc;have rk:x.ok=true:=Kn ▸ ao.Sz ir _ ob;have zNH:y.ok=true:=nw ▸ ao.Sz ir _ Oo
 have hxl:na<=200->x.args.length<=200:=by
  intro hn;obtain⟨r,hr,At⟩:=hfa hn;obtain⟨m,hm,jz⟩:=Z0.1 hr;rw[Kn]at hm;have M:=hm.ziE;have O:=zhH m;have h3:r.args=m:=by rw[jz];rfl
  have h4:=G.size_eq r;rw[h3]at h4;omega
 clear hfa;have KQ:=Tf sl tr x;have J2:=Tf sl tr y;obtain⟨ak,an,ai,ah,al⟩:=a;obtain⟨bk,bn,zKV,bh,bl⟩:=b;by_cases c0:200<na
 . have ox:(200:Int)<(na:Int):=by omega
   rw[if_pos (.inl c0)]at h;obtain⟨rfl,rfl,rfl,rfl⟩:=kq h;simp[cV,U,fB,hZ,pR,ir,ob,e2,ox,UY];exact .inl (aH.bw)
 have ox:¬ (200:Int)<(na:Int):=by omega
 by_cases c1:200<nb
 . have ot:(200:Int)<(nb:Int):=by omega
   rw[if_pos (.inr c1)]at h;obtain⟨rfl,rfl,rfl,rfl⟩:=kq h;simp[cV,U,fB,hZ,pR,ir,ob,Oo,e2,ox,UY,Wj,ot];exact .inl (aH.bw)
 have ot:¬ (200:Int)<(nb:Int):=by omega
 rw[if_neg (by rintro (h|h)<;>omega)]at h;replace hxl:=hxl (by omega);by_cases fa:ao.nA ⟨sl,tr⟩ x=true
 . obtain⟨HK,i,sd,cA,hsx⟩:=ao.NA fa;rw[if_pos fa,hsx]at KQ;by_cases fb:ao.nA ⟨sl,tr⟩ y=true
   . obtain⟨E6,j,z6,kx,hsy⟩:=ao.NA fb;rw[if_pos fb,hsy]at J2;by_cases qu:i=j
     . rw[if_pos ⟨HK,E6,by rw[sd,z6,qu]⟩]at h;obtain⟨rfl,rfl,rfl,rfl⟩:=kq h;obtain⟨p,hp⟩:∃ p,sl[i]=p:=⟨_,rfl⟩;obtain⟨q,hq⟩:∃ q,sl[j]=q:=⟨_,rfl⟩;rw[hp]at KQ;rw[hq]at J2;obtain⟨xk,xn,xi,xh,xl⟩:=x;obtain⟨yk,yn,yi,yh,yl⟩:=y;obtain⟨pb,⟨pk,pn,pi,ph,pl⟩,pm,pg⟩:=p;obtain⟨qb,⟨qk,qn,qi,qh,ql⟩,qm,qg⟩:=q;simp only[G.fw,G.o5]at HK E6 sd z6;subst HK E6 sd z6 qu;simp at KQ J2;simp[cV,U,fB,hZ,pR,ir,ob,Oo,e2,ox,ot,hW,h6,aJ,Kn,nw,Rv,KQ,J2,UY,Wj];exact .inl (aH.bw)
     . rw[if_neg (by rintro ⟨_,_,h3⟩;rw[sd,z6]at h3;omega),if_pos fa,if_pos fb]at h;have qt:=(cB h).1;have xr:=(cB (cB h).2).1;have Hi:=(cB (cB h).2).2;subst qt xr;have hij2:¬ (i:Int)=j:=by omega
       have hF:=znQ sd z6 cA kx qu (by simp only at KB;omega) la Hi;clear h Hi wc;obtain⟨p,hp⟩:∃ p,sl[i]=p:=⟨_,rfl⟩;obtain⟨q,hq⟩:∃ q,sl[j]=q:=⟨_,rfl⟩;rw[hp]at KQ;rw[hq]at J2;obtain⟨xk,xn,xi,xh,xl⟩:=x;obtain⟨yk,yn,yi,yh,yl⟩:=y;obtain⟨pb,⟨pk,pn,pi,ph,pl⟩,pm,pg⟩:=p;obtain⟨qb,⟨qk,qn,qi,qh,ql⟩,qm,qg⟩:=q;simp only[G.fw,G.o5]at HK E6 sd z6;subst HK E6 sd z6;simp at KQ J2 hF;obtain⟨cw,w9⟩:∃ cw,tr++ex=cw:=⟨_,rfl⟩;simp[cV,w9,U,fB,hZ,pR,ir,ob,Oo,e2,ox,ot,hW,h6,aJ,Kn,nw,Rv,KQ,J2,hij2,UY,Wj,hJ,hF];exact .inl (aH.bw)
   . rw [if_neg fb]at J2;obtain⟨se,lz,hv3⟩:=wc x y (.inl ⟨rfl,rfl⟩) fa;rw[sd]at hv3;have hF:=zcU sd cA ir zNH se hv3 (by simp only at KB;omega) la;obtain⟨p,hp⟩:∃ p,sl[i]=p:=⟨_,rfl⟩;rw[hp]at KQ;by_cases iu:y.kind=1/\x.id=y.id
     . rw[if_pos ⟨HK,iu.1,iu.2⟩]at h;obtain⟨rfl,rfl,rfl,rfl⟩:=kq h;clear hF wc;obtain⟨xk,xn,xi,xh,xl⟩:=x;obtain⟨yk,yn,yi,yh,yl⟩:=y;obtain⟨pb,⟨pk,pn,pi,ph,pl⟩,pm,pg⟩:=p;simp only[G.fw,G.o5]at HK sd iu;obtain⟨Wc,hs5⟩:=iu;subst HK Wc hs5 sd;simp[D5]at KQ J2;simp[cV,U,fB,hZ,pR,ir,ob,Oo,e2,ox,ot,hW,h6,aJ,Kn,nw,Rv,KQ,J2,UY,Wj];exact .inl (aH.bw)
     . rw[if_neg (by rintro ⟨_,O,h3⟩;exact iu ⟨O,h3⟩),if_pos fa,if_neg fb,sd]at h;have qt:=(cB h).1;have xr:=(cB (cB h).2).1;have Hi:=(cB (cB h).2).2;rw[Hi]at hF;rw[xr]at hF;simp only[List.drop_left]at hF;subst qt;clear h Hi xr wc;obtain⟨xk,xn,xi,xh,xl⟩:=x;obtain⟨yk,yn,yi,yh,yl⟩:=y;obtain⟨pb,⟨pk,pn,pi,ph,pl⟩,pm,pg⟩:=p;simp only[G.fw,G.o5]at HK sd iu;subst HK sd;simp[D5]at KQ J2;simp at hF;by_cases hy1:yk=1
       . have Wc:¬ (i:Int)=yi:=λe=>iu ⟨hy1,e⟩
         subst hy1;obtain⟨cw,w9⟩:∃ cw,tr++ex=cw:=⟨_,rfl⟩;simp[cV,w9,U,fB,hZ,pR,ir,ob,Oo,e2,ox,ot,hW,h6,aJ,Kn,nw,Rv,KQ,J2,Wc,UY,Wj,hB,hF];exact .inl (aH.bw)
       . skip
         obtain⟨cw,w9⟩:∃ cw,tr++ex=cw:=⟨_,rfl⟩;simp[cV,w9,U,fB,hZ,pR,ir,ob,Oo,e2,ox,ot,hW,h6,aJ,Kn,nw,Rv,KQ,J2,hy1,UY,Wj,hB,hF];exact .inl (aH.bw)
 . rw [if_neg fa]at KQ;by_cases fb:ao.nA ⟨sl,tr⟩ y=true
   . obtain⟨E6,j,z6,kx,hsy⟩:=ao.NA fb;rw[if_pos fb,hsy]at J2;obtain⟨se,lz,hv3⟩:=wc y x (.inr ⟨rfl,rfl⟩) fb;rw[z6]at hv3;have hF:=zcU z6 kx ir rk se hv3 (by simp only at KB;omega) la;obtain⟨p,hp⟩:∃ p,sl[j]=p:=⟨_,rfl⟩;rw[hp]at J2;by_cases iu:x.kind=1/\x.id=y.id
     . rw[if_pos ⟨iu.1,E6,iu.2⟩]at h;obtain⟨rfl,rfl,rfl,rfl⟩:=kq h;clear hF wc;obtain⟨xk,xn,xi,xh,xl⟩:=x;obtain⟨yk,yn,yi,yh,yl⟩:=y;obtain⟨pb,⟨pk,pn,pi,ph,pl⟩,pm,pg⟩:=p;simp only[G.fw,G.o5]at E6 z6 iu;obtain⟨Wc,hs5⟩:=iu;subst E6 Wc hs5 z6;simp[D5]at KQ J2;simp[cV,U,fB,hZ,pR,ir,ob,Oo,e2,ox,ot,hW,h6,aJ,Kn,nw,Rv,KQ,J2,UY,Wj];exact .inl (aH.bw)
     . rw[if_neg (by rintro ⟨M,_,h3⟩;exact iu ⟨M,h3⟩),if_neg fa,if_pos fb,z6]at h;have qt:=(cB h).1;have xr:=(cB (cB h).2).1;have Hi:=(cB (cB h).2).2;rw[Hi]at hF;rw[xr]at hF;simp only[List.drop_left]at hF;subst qt;clear h Hi xr wc;obtain⟨xk,xn,xi,xh,xl⟩:=x;obtain⟨yk,yn,yi,yh,yl⟩:=y;obtain⟨pb,⟨pk,pn,pi,ph,pl⟩,pm,pg⟩:=p;simp only[G.fw,G.o5]at E6 z6 iu;subst E6 z6;simp[D5]at KQ J2;simp at hF;by_cases z9:xk=1
       . have Wc:¬ xi=(j:Int):=λe=>iu ⟨z9,e⟩
         subst z9;obtain⟨cw,w9⟩:∃ cw,tr++ex=cw:=⟨_,rfl⟩;simp[cV,w9,U,fB,hZ,pR,ir,ob,Oo,e2,ox,ot,hW,h6,aJ,Kn,nw,Rv,KQ,J2,Wc,UY,Wj,hB,hF];exact .inl (aH.bw)
       . skip
         obtain⟨cw,w9⟩:∃ cw,tr++ex=cw:=⟨_,rfl⟩;simp[cV,w9,U,fB,hZ,pR,ir,ob,Oo,e2,ox,ot,hW,h6,aJ,Kn,nw,Rv,KQ,J2,z9,UY,Wj,hB,hF];exact .inl (aH.bw)
   . rw [if_neg fb]at J2;simp[D5]at KQ J2;clear wc;obtain⟨xk,xn,xi,xh,xl⟩:=x;obtain⟨yk,yn,yi,yh,yl⟩:=y;simp only[G.fw,G.o5,G.fC]at h hxl;rw[if_neg fa,if_neg fb]at h;simp at KQ J2;by_cases M:xk=yk
     . subst M;by_cases hn:xn=yn
       . subst hn;by_cases hi:xi=yi
         . subst hi;by_cases hv:xk=1
           . subst hv;rw[if_pos ⟨rfl,rfl,rfl⟩]at h;obtain⟨rfl,rfl,rfl,rfl⟩:=kq h;simp[cV,U,fB,hZ,pR,ir,ob,Oo,e2,ox,ot,hW,h6,aJ,Kn,nw,Rv,KQ,J2,UY,Wj];exact .inl (aH.bw)
           . rw [if_neg (λhh=>hv hh.1)]at h;by_cases hh:xh=yh
             . subst hh;by_cases hl:xl.length=yl.length
               . rw[if_neg (by unfold ao.fg;simp[hl])]at h;have qt:=(cB h).1;have xr:=(cB (cB h).2).1;have Hi:=(cB (cB h).2).2;obtain⟨zN0,zNZ⟩:=ao.mk.inj Hi;have zNY:ex=[]:=by simpa using zNZ.symm
                 replace qt:l=Q7 xl yl:=qt.symm;subst qt xr zN0 zNY;have D1:=Sq hl;have ht:List.take xl.length (List.map cZ (Q7 xl yl))=List.map cZ (Q7 xl yl):=aZ (by rw[aL,D1];exact af _);have r1:xl.length*128<=1048576:=by omega
                 have r2:xl.length*10<=1048576:=by omega
                 have AF:yl.length=xl.length:=hl.symm;simp[cV,U,fB,hZ,pR,ir,ob,Oo,e2,ox,ot,hW,h6,aJ,Kn,nw,Rv,KQ,J2,UY,Wj,hv,AF,r1,r2,-List.map_replicate];refine Ow hρ U aq (sl:=sl) (tr:=tr) (g:=⟨ga,gb,gn,cV⟩) (xk:=xk) (xn:=xn) (xi:=xi) (xh:=xh) (xl:=xl) (yk:=xk) (yn:=xn) (yi:=xi) (yh:=xh) (yl:=yl) hl (by omega) rfl rfl (aw.auto (by simp[fB]) (by simp[fB,YF,I2]) (by simp[fB]) (by simp[fB]<;>(intro x hx;first|omega|exact⟨.inl hx,by omega⟩))) ?_;simp[cV,U,fB,YF];exact .inr (vZ.bw (dt:=by simp[kP,D1,ht]))
               . have xf:¬ (xl.length:Int)=yl.length:=by omega
                 rw[if_pos (by unfold ao.fg;simp[hl])]at h;obtain⟨rfl,rfl,rfl,rfl⟩:=kq h;simp[cV,U,fB,hZ,pR,ir,ob,Oo,e2,ox,ot,hW,h6,aJ,Kn,nw,Rv,KQ,J2,UY,Wj,hv,xf];exact .inl (aH.bw)
             . rw[if_pos (by unfold ao.fg;simp[hh])]at h;obtain⟨rfl,rfl,rfl,rfl⟩:=kq h;simp[cV,U,fB,hZ,pR,ir,ob,Oo,e2,ox,ot,hW,h6,aJ,Kn,nw,Rv,KQ,J2,UY,Wj,hv,hh];exact .inl (aH.bw)
         . rw[if_neg (λhh=>hi hh.2.2),if_pos (by unfold ao.fg;simp[hi])]at h;obtain⟨rfl,rfl,rfl,rfl⟩:=kq h;by_cases hv:xk=1
           . subst hv;simp[cV,U,fB,hZ,pR,ir,ob,Oo,e2,ox,ot,hW,h6,aJ,Kn,nw,Rv,KQ,J2,UY,Wj,hi];exact .inl (aH.bw)
           . simp[cV,U,fB,hZ,pR,ir,ob,Oo,e2,ox,ot,hW,h6,aJ,Kn,nw,Rv,KQ,J2,UY,Wj,hi,hv];exact .inl (aH.bw)
       . have eb:ao.fg (.mk xk xn xi xh xl) (.mk xk yn yi yh yl):=.inr (.inl hn);by_cases hv:xk=1/\xi=yi
         . rw[if_pos ⟨hv.1,hv.1,hv.2⟩]at h;obtain⟨rfl,rfl,rfl,rfl⟩:=kq h;obtain⟨se,lz⟩:=hv;subst se lz;simp[cV,U,fB,hZ,pR,ir,ob,Oo,e2,ox,ot,hW,h6,aJ,Kn,nw,Rv,KQ,J2,UY,Wj];exact .inl (aH.bw)
         . rw[if_neg (λhh=>hv ⟨hh.1,hh.2.2⟩),if_pos eb]at h;obtain⟨rfl,rfl,rfl,rfl⟩:=kq h;by_cases se:xk=1
           . have hi:¬ xi=yi:=λe=>hv ⟨se,e⟩
             subst se;simp[cV,U,fB,hZ,pR,ir,ob,Oo,e2,ox,ot,hW,h6,aJ,Kn,nw,Rv,KQ,J2,UY,Wj,hn,hi];exact .inl (aH.bw)
           . simp[cV,U,fB,hZ,pR,ir,ob,Oo,e2,ox,ot,hW,h6,aJ,Kn,nw,Rv,KQ,J2,UY,Wj,hn,se];exact .inl (aH.bw)
     . have eb:ao.fg (.mk xk xn xi xh xl) (.mk yk yn yi yh yl):=.inl M;rw[if_neg (λhh=>M (hh.1.trans hh.2.1.symm)),if_pos eb]at h;obtain⟨rfl,rfl,rfl,rfl⟩:=kq h;by_cases hv:xk=1
       . subst hv;have lz:¬ yk=1:=λe=>M e.symm
         simp[cV,U,fB,hZ,pR,ir,ob,Oo,e2,ox,ot,hW,h6,aJ,Kn,nw,Rv,KQ,J2,UY,Wj,M,lz];exact .inl (aH.bw)
       . simp[cV,U,fB,hZ,pR,ir,ob,Oo,e2,ox,ot,hW,h6,aJ,Kn,nw,Rv,KQ,J2,UY,Wj,M,hv];exact .inl (aH.bw)
end
end
open Classical in
def WX(d:Nat)(sl:Z Slot)(tr:Z Change)(args:Z V):Y (V×Z Slot×Z Change):=match args with
 | [ev]=>W (bo.dec ev:Y bQ) λe=>if ao.E9 d ⟨sl,tr⟩ e.left e.right then some (.tuple [enc (ao.je ⟨sl,tr⟩ e.left e.right).1,.int .i64 (ao.je ⟨sl,tr⟩ e.left e.right).2.1],(ao.je ⟨sl,tr⟩ e.left e.right).2.2.a9,(ao.je ⟨sl,tr⟩ e.left e.right).2.2.b7.drop tr.length)else none
 |_=>none
def zje{args:Z V}{q:V×Z Slot×Z Change}(h:WX d sl tr args=some q):∃ e:bQ,args=[enc e]/\ao.E9 d ⟨sl,tr⟩ e.left e.right/\q=(.tuple [enc (ao.je ⟨sl,tr⟩ e.left e.right).1,.int .i64 (ao.je ⟨sl,tr⟩ e.left e.right).2.1],(ao.je ⟨sl,tr⟩ e.left e.right).2.2.a9,(ao.je ⟨sl,tr⟩ e.left e.right).2.2.b7.drop tr.length):=by
 unfold WX at h;split at h
 . simp only[aA]at h;obtain⟨e,he,h⟩:=h;split at h
   . rename_i hh;cases h;exact⟨e,by rw[bo.bq _ _ he],hh,rfl⟩
   . cases h
 . cases h
open Classical in
def znd{e:bQ}(hh:ao.E9 d ⟨sl,tr⟩ e.left e.right){ex:Z Change}(h:ao.je ⟨sl,tr⟩ e.left e.right=(l,c,⟨cS,tr++ex⟩)):WX d sl tr [enc e]=some (.tuple [enc l,.int .i64 c],cS,ex):=by
 show W (bo.dec (enc e):Y bQ) _=_;rw[bo.bZ];show (if ao.E9 d ⟨sl,tr⟩ e.left e.right then _ else none)=_;rw[if_pos hh,h];simp
def Xi(s:ao)(a b:G):∃ m,ao.kB s (s.je a b).2.2 m:=by
 unfold ao.je;split
 . exact⟨0,.refl _ _⟩
 split
 . exact⟨0,.refl _ _⟩
 split
 . split
   . exact⟨_,ao.Xj _ _ _⟩
   . exact⟨_,ao.FC _ _ _⟩
 split
 . exact⟨_,ao.FC _ _ _⟩
 split
 . exact⟨0,.refl _ _⟩
 . exact⟨0,.refl _ _⟩
section
variable (hρ:J.Good I)
include hρ
def zvD(d:Nat):Valid I Pg 263 (eY (Gi (WX d))):=by
 refine Valid.sym (fo Tryz.func263 sP.2) λvs C D h=>?_
 obtain⟨args,sl,tr,g,r,cS,ex,ds,a,b,c,f,hF,rfl,_,hr,hg,b4⟩:=JU h;obtain⟨e,rfl,M,hq⟩:=zje hF;cases hq;have UG:(EL [(132,pR),(199,yq KA (wA (E2 Ie))),(273,w5 (Gi Iw)),(274,eY (Gi Ut)),(275,eY (Gi (Vp d)))]).P=Pg:=rfl
 have cQ:∀ ρ',J.Good ρ'->bH ρ' (EL [(132,pR),(199,yq KA (wA (E2 Ie))),(273,w5 (Gi Iw)),(274,eY (Gi Ut)),(275,eY (Gi (Vp d)))]):=λρ' fF =>
  ag (ae (Yd fF) (ae (Valid.yq (zdx fF) (zgg fF)) (ae (zly fF) (ae (zvE fF) (ae (zvF fF d) aG)))))
 obtain⟨m,hm⟩:=Xi ⟨sl,tr⟩ e.left e.right;have he:=hm.eq;have heq:ao.je ⟨sl,tr⟩ e.left e.right=((ao.je ⟨sl,tr⟩ e.left e.right).1,(ao.je ⟨sl,tr⟩ e.left e.right).2.1,⟨(ao.je ⟨sl,tr⟩ e.left e.right).2.2.a9,tr++(ao.je ⟨sl,tr⟩ e.left e.right).2.2.b7.drop tr.length⟩):=tL rfl (tL rfl he);cases e;exact SY hρ follows named Tryz.func263 sP.2 rfl hg (λρ' fF=>⟨_,UG,cQ ρ' fF,VQ fF UG (cQ ρ' fF) rfl rfl rfl rfl rfl M heq⟩) (λ_ _ h=>h) b4
def zqX:Valid I Pg 264 (sj (Hg 276)):=by
 refine Valid.DG (fo Tryz.func264 kJ.2) λvs C D h=>?_
 obtain⟨es,tg,rfl,hg,b4⟩:=PQ h;refine em hρ (E:=EL []) rfl (ag aG) Tryz.func264 kJ.2 rfl hg ?_ b4;show Wp I _ 0 _ _ _ { H:=dW [],n:=0,log:=[] } (J.Leaves _ _ (aH 0 (.func 276 [.ptr 0 0 0]) [(0,jm (.sl es tg))]));simp;exact aH.bw
end
def jg(sl:Z Slot)(tr:Z Change)(g:MG):Z (Nat×J.Obj):=[(0,mB 1 2 sl tr g),(1,mS sl g),(2,mT tr g)]
section
variable (hρ:J.Good I)
include hρ
section
variable {E:Env}(U:E.P=Pg)(aq:bH I E)
include U aq
def Qd     {more rows:Z bQ} {gen:Nat} {cap:Y Nat} {x:Bool} (oY:∀ c,cap=some c->c=rows.length) (M:rows.take l.length=l.reverse) (O:l.length<=rows.length) (fX:l.length<=7000) (We:more.length<=1000)
    (hT:aw k T C (dW [(7,.ptr 3 0 0),(8,.ptr 4 0 0),(43,.func 276 [.ptr 6 0 0])]) { H:=dW (jg cR cw G2++[(3,jm (.ptr 0 0 1)),(4,jm (.own 5 gen 0 l.length cap)),(5,.arr 10 gen (rows.map cZ) x false true),(6,jm (.sl (more.map cZ) false))]),n:=7,log:=[] })
 (hQ:∀ H n log,7<n->(∀ i,n<=i->H.get i=none)->P0 (jg cR cw G2++[(3,jm (.ptr 0 0 1)),(6,jm (.sl (more.map cZ) false))]) (more++l) H->bO k Q .normal (dW [(7,.ptr 3 0 0),(8,.ptr 4 0 0),(43,.func 276 [.ptr 6 0 0])]) { H:=H,n:=n,log:=log }) :
 Ls I E k 50 (.range (.tmp 43) #[44,45] DI nV) T C Q:=by
 have zj0:∀ p∈jg cR cw G2++[(3,jm (.ptr 0 0 1)),(6,jm (.sl (more.map cZ) false))],p.1<4\/p.1=6:=by
  intro p hp;simp only[jg,eU,iI,aB,aS,or_false]at hp;rcases hp with rfl|rfl|rfl|rfl|rfl<;>simp
 refine nX (Sl hT ?_);refine zdc hρ aq (by rw[U];exact follows) (by rw[U];exact named) ?_
 refine Z7 (f:=276) (fn:=Tryz.f276) (tS:=278) (tE:=277) (tI:=3) (tB:=4) (IS:=Ss) (IE:=PX) (val:=λe=>.agg e) (bx:=6) (by rw[U];exact Tryz.func276) pX.2 (by kernel_rfl) (by kernel_rfl) (by rw[U];simp) (by simp) (by rw[U];simp) (es:=more.map cZ) (tg:=false) (by rw[zB9.2.1];exact zaT _) ?_ ?_ (by simp) (by simp[jg]) (by omega) ?_ ?_
  (λj H=>P0 (jg cR cw G2++[(3,jm (.ptr 0 0 1)),(6,jm (.sl (more.map cZ) false))]) (more.drop j++l) H)
  (λj e T H n=>zOp (jg cR cw G2++[(3,jm (.ptr 0 0 1)),(6,jm (.sl (more.map cZ) false))]) (more.drop (j+1)++l) e T H n)
  (λj H o h=>zhP (λp hp=>by have:=zj0 p hp;omega) h) ?_ ?_ (JJ:=λ_ _=>False) (λ_ _ _ _ h=>h) (λ_ _ _ _ h=>h) ?_ ?_ ?_ (λ_ _ _ _ _ h=>h.elim)
 . intro e he;obtain⟨c,_,rfl⟩:=aI.1 he;simp
 . simp;omega
 . intro i hi;obtain⟨j,rfl⟩:∃ j,i=j+7:=⟨i-7,by omega⟩;simp[jg]
 . intro v1 v2;exact⟨_,rfl⟩
 . rintro j e T H n o ⟨g1,g2,id,g3,g4,g5,g6⟩;exact⟨zhP (λp hp=>by have:=zj0 p hp;omega) g1,g2,id,g3,g4,g5,by rw[PT.cK,if_neg (by omega)];exact g6⟩
 . rw[aL,bz,iI];refine⟨λp hp=>?_,5,gen,cap,rows,x,by omega,by omega,by omega,by simp[jg],by simp[jg],M,O,oY⟩;simp only[jg,eU,iI,aB,aS,or_false]at hp;rcases hp with rfl|rfl|rfl|rfl|rfl<;>simp[jg]
 . intro i e he H n log T1 hn hv hI hz;cases hz;have gE:∀ j,H.get (n+j)=none:=λj=>hv _ (by omega)
   have ov:=hv n (af _);have h7:¬ 7=n:=by omega
   have h6:¬ 6=n:=by omega
   obtain⟨c,rfl⟩:∃ c,e=cZ c:=by
    have hm:=aC he;obtain⟨c,_,rfl⟩:=aI.1 hm;exact⟨c,rfl⟩
   refine X6 (I:=I) (k:=0) rfl ?_;simp[DI,U,gE,ov,h7,h6];refine⟨λj hj=>?_,zps ov hI,by simp,n,by simp,by omega,by omega,by simp⟩;rw[if_neg (by omega),if_neg (by omega)];exact hv j (by omega)
 . rintro i e he H n log T2 hn hv ⟨hI,t8,id,zFJ,i7,iN,gid⟩;have gE:∀ j,H.get (n+j)=none:=λj=>hv _ (by omega)
   have ov:=hv n (af _);obtain⟨wv,Qn,gen,cap,rows,x,r5,r6,r7,g4,gr,k1,k2,k3⟩:=hI
   obtain⟨q,hq⟩:∃ q,more[i]?=some q:=by
    rw[bC,bG]at he;obtain⟨c,hc,_⟩:=he;exact⟨c,hc⟩
   have xF:e=cZ q:=by
    rw[bC,hq]at he;exact(bS he).symm
   subst xF;have cA:=(aM.1 hq).1;have hci:=(aM.1 hq).2;have gR:more.drop i++l=q::(more.drop (i+1)++l):=by rw[aK cA,hci];rfl
   have KR:(more.drop (i+1)++l).length<=8000:=by rw[bB,List.length_drop];omega
   rw[gR];generalize more.drop (i+1)++l=cJ at k1 k2 g4 KR;obtain⟨J,hJ⟩:∃ J,rows=cJ.reverse++J:=⟨rows.drop cJ.length,by rw[<- k1,List.take_append_drop]⟩;obtain⟨A,hA⟩:∃ A,cJ.reverse=A:=⟨_,rfl⟩;have zHq:cJ.length=A.length:=by rw[<- hA,List.length_reverse]
   have hA2:(q::cJ).reverse=A++[q]:=by rw[List.reverse_cons,hA]
   rw[hA]at hJ;subst hJ;obtain⟨N,hN⟩:∃ N,cJ.length=N:=⟨_,rfl⟩;rw[hN]at g4 KR zHq;subst zHq;have hrn:Qn<n:=jK λhle=>by rw[hv Qn hle]at gr;cases gr
   have nr:∀ j,¬ Qn=n+j:=λj=>by omega
   have zI7:∀ j,¬ n+j=Qn:=λj=>by omega
   have nr0:¬ Qn=n:=by omega
   have n4:∀ j,¬ 4=n+j:=λj=>by omega
   have n40:¬ 4=n:=by omega
   have zI9:¬ Qn=4:=by omega
   have zI8:¬ 4=Qn:=by omega
   have n6:¬ 6=Qn:=by omega
   have n7:¬ 7=Qn:=by omega
   have zGz:∀ j,¬ 6=n+j:=λj=>by omega
   have zGy:∀ j,¬ 7=n+j:=λj=>by omega
   have nid:∀ j,¬ id=n+j:=λj=>by omega
   have eA:(A.length+1)*128<=1048576:=by omega
   have m9:∀ (c d:Z V) (J':Z bQ),kI (A.map cZ++c::J'.map cZ) A.length [d]=A.map cZ++d::J'.map cZ:=λc d J'=>zji (by rw[aL])
   have zn4:=m9
   try simp only[cZ]at zn4
   have mA:List.take A.length (A.map cZ)=A.map cZ:=aZ (by rw[aL];exact af _);refine X6 (I:=I) (k:=0) rfl ?_
   cases cap with
   | none =>
     cases J with
     | nil =>
       simp[nV,U,gE,t8,zFJ,g4,gr,gid,nr,n4,zI8,n6,n7,zGz,zGy,eA,zI7,mA,aY,eD];refine⟨λj hj=>?_,λp hp=>?_,Qn,gen+1,none,A++[q],false,by omega,by omega,by omega,?_,?_,?_,?_,λc hc=>by cases hc⟩
       . repeat rw[if_neg (by omega)]
         exact hv j (by omega)
       . have:=zj0 p hp;simp only[PT.cK]
         repeat rw[if_neg (by omega)]
         exact wv p hp
       . simp[PT.cK,hN]<;>omega
       . simp[PT.cK,zI9]<;>omega
       . rw[hA2];exact aZ (by simp[hN])
       . simp[hN]
     | cons y J =>
       simp[nV,U,gE,t8,zFJ,g4,gr,gid,nr,n4,zI8,n6,n7,zGz,zGy,eA,zn4,zI7,eD];refine⟨λj hj=>?_,λp hp=>?_,Qn,gen,none,A++q::J,x,by omega,by omega,by omega,?_,?_,?_,?_,λc hc=>by cases hc⟩
       . repeat rw[if_neg (by omega)]
         exact hv j (by omega)
       . have:=zj0 p hp;simp only[PT.cK]
         repeat rw[if_neg (by omega)]
         exact wv p hp
       . simp[PT.cK,hN]<;>omega
       . simp[PT.cK,zI9]<;>omega
       . rw[hA2];rw[show (q::cJ).length=(A++[q]).length by simp[hN],show A++q::J=(A++[q])++J by simp,List.take_left]
       . simp[hN]
   | some c =>
     have hc:=k3 c rfl
     cases J with
     | nil =>
       simp[nV,U,gE,t8,zFJ,g4,gr,gid,nr,n4,zGz,zGy,eA,mA,hc,aY,eD];refine⟨λj hj=>?_,λp hp=>?_,(n+3),0,none,A++[q],false,by omega,by omega,by omega,?_,?_,?_,?_,λc hc=>by cases hc⟩
       . repeat rw[if_neg (by omega)]
         exact hv j (by omega)
       . have:=zj0 p hp;simp only[PT.cK]
         repeat rw[if_neg (by omega)]
         exact wv p hp
       . simp[PT.cK,hN]<;>omega
       . simp[PT.cK]<;>omega
       . rw[hA2];exact aZ (by simp[hN])
       . simp[hN]
     | cons y J =>
       simp[nV,U,gE,t8,zFJ,g4,gr,gid,nr,n4,zI8,n6,n7,zGz,zGy,eA,zn4,zI7,hc,eD];refine⟨λj hj=>?_,λp hp=>?_,Qn,gen,(some (A++q::J).length),A++q::J,x,by omega,by omega,by omega,?_,?_,?_,?_,λc hc=>by cases hc;rfl⟩
       . repeat rw[if_neg (by omega)]
         exact hv j (by omega)
       . have:=zj0 p hp;simp only[PT.cK]
         repeat rw[if_neg (by omega)]
         exact wv p hp
       . simp[PT.cK,hN]<;>omega
       . simp[PT.cK,zI9]<;>omega
       . rw[hA2];rw[show (q::cJ).length=(A++[q]).length by simp[hN],show A++q::J=(A++[q])++J by simp,List.take_left]
       . simp[hN]
 . rintro H n log hn hv hI;rw[sw]at hI;exact hQ H n log hn hv hI
theorem Q9  (hP:E.dE 263=eY (Gi (WX d))) (hB:E.dE 264=sj (Hg 276))    {a b:G}    (h:ao.jq d f ⟨sl,tr⟩ [⟨a,b⟩]=some (⟨cS,tr++uc⟩,e)) :
 Wp I E 3 50 qH.1 (((PT.leaf.set 0 (.ptr 0 0 1)).set 1 (enc a)).set 2 (enc b)) { H:=dW (jg sl tr g),n:=3,log:=[] } (J.Leaves E.P Tryz.f236 (aH 3 (.int .i64 e) (jg cS (tr++uc) (g.add uc.length)))):=by
 obtain⟨Ff,Zi⟩:∃ Ff,tr++uc=Ff:=⟨_,rfl⟩;obtain⟨G3,HQ⟩:∃ G3,g.add uc.length=G3:=⟨_,rfl⟩;rw[Zi]at h;rw[Zi,HQ];obtain⟨ak,an,ai,ah,al⟩:=a;obtain⟨bk,bn,zKV,bh,bl⟩:=b;simp[U,jg]
 refine vC hρ U aq f (nn:=7) (λi (_:Z Slot×Z Change×MG×Z bQ×Z bQ×Nat×Y Nat×Bool)=>[(7,.ptr 3 0 0),(8,.ptr 4 0 0)])
  (λi st=>jg st.1 st.2.1 st.2.2.1++[(3,jm (.ptr 0 0 1)),(4,jm (.own 5 st.2.2.2.2.2.1 0 st.2.2.2.1.length st.2.2.2.2.2.2.1)),(5,.arr 10 st.2.2.2.2.2.1 (st.2.2.2.2.1.map cZ) st.2.2.2.2.2.2.2 false true)])
  (λi st=>(∃ Rx,st.2.1=tr++Rx/\st.2.2.1=g.add Rx.length)/\st.2.2.2.2.1.take st.2.2.2.1.length=st.2.2.2.1.reverse/\st.2.2.2.1.length<=st.2.2.2.2.1.length/\(∀ c,st.2.2.2.2.2.2.1=some c->c=st.2.2.2.2.1.length)/\ao.jq d (f-i) ⟨st.1,st.2.1⟩ st.2.2.2.1=some (⟨cS,Ff⟩,e))
  (sl,tr,g,[⟨.mk ak an ai ah al,.mk bk bn zKV bh bl⟩],[⟨.mk ak an ai ah al,.mk bk bn zKV bh bl⟩],0,some 1,true)
  (aw.auto (by simp[jg]) (by simp[jg]) (by simp[jg]) (by simp[jg]<;>(intro x hx;first|omega|exact⟨.inl hx,by omega⟩))) ⟨⟨[],by simp,by simp⟩,by simp,by simp,by simp,by simpa using h⟩ ?_ ?_
 . rintro ⟨cY,mR,cL,l,rows,gen,cap,x⟩ ⟨_,_,_,_,hw⟩ K;rw[lh,ao.jq]at hw;cases hw
 . rintro i ⟨cY,mR,cL,l,rows,gen,cap,x⟩ hi ⟨⟨Rx,e1,e2⟩,M,O,h3,hw⟩ K hK;obtain⟨n,hn⟩:∃ n,f-i=n+1:=⟨f-i-1,by omega⟩;have tw:f-(i+1)=n:=by omega
   rw[hn]at hw;simp only at e1 e2 M O h3 hw
   cases l with
   | nil =>
     rw[ao.jq]at hw;obtain⟨u3,lR⟩:=cB (bS hw);obtain⟨oj,Wg⟩:=ao.mk.inj u3
     have HQ:G3=cL:=by
      grind [List.append_cancel_left]
     subst lR oj Wg HQ;simp[sK,U,jg];refine bO.mk (aw.auto (TL:=[]) (HL:=jg cY mR G3) (n:=7) (by simp[jg]) (by simp[jg]) (by simp[jg]) (by simp[jg]<;>(intro x hx;first|omega|exact⟨.inl hx,by omega⟩))) ?_;simp[jg];exact aH.fu rfl rfl rfl (by simp)
   | cons e0 l =>
     rw[ao.jq]at hw;split at hw
     case isFalse=>cases hw
     rename_i er;obtain⟨er,fX,We⟩:=er;obtain⟨mg,zMa⟩:=Xi ⟨cY,mR⟩ e0.left e0.right;obtain⟨BM,t3,t4⟩:=zMa.b7;obtain⟨Q,hQ⟩:∃ Q,ao.je ⟨cY,mR⟩ e0.left e0.right=Q:=⟨_,rfl⟩;rw[hQ]at hw t3 We;obtain⟨more,c,cR,cw⟩:=Q;simp only at hw t3 We;subst t3;have hF:=znd er hQ;clear zMa t4 hQ er;have ue:l.length<rows.length:=by simp only[aX]at O;omega
     have hre:rows[l.length]=e0:=by
      have:=congrArg (λq=>q[l.length]?) M
      grind
     have hrt:rows.take l.length=l.reverse:=by
      have:=congrArg (λq=>q.take l.length) M
      grind
     have hle:l.length<=rows.length:=by omega
     have hrl:((e0::l).length:Int)=(l.length:Int)+1:=by simp
     have hw0:IntKind.i64.wrap (l.length:Int)=(l.length:Int):=by rw[wrap_i64 (by omega) (by omega)]
     have pS:l.length*10 / 10=l.length:=by omega
     have lj:l.length*10 % 10=0:=by omega
     obtain⟨⟨pk,pn,pi,ph,pl⟩,⟨qk,qn,qi,qh,ql⟩⟩:=e0;simp at hF;by_cases hc:c=0
     . subst hc;rw[if_pos rfl]at hw
       have bc:∀ (Iz:Z bQ) (Wi:Nat) (tU:Y Nat) (x2:Bool),Iz.take (more++l).length=(more++l).reverse->(more++l).length<=Iz.length->(∀ c,tU=some c->c=Iz.length)->_:=λIz Wi tU x2 q1 q2 q3 =>
        hK (cR,mR++BM,cL.add BM.length,more++l,Iz,Wi,tU,x2) ⟨⟨Rx++BM,by simp[e1],by simp only;rw[bB,<- MG.add_add,<- e2]⟩,q1,q2,q3,by rw[tw];exact hw⟩
       clear hK hw M e2;obtain⟨cw,w9⟩:∃ cw,mR++BM=cw:=⟨_,rfl⟩
       cases cap with
       | none =>
         simp[w9,sK,U,jg,hP,cL.hn,ue,hre,hw0,pS,lj,hF,aJ,EE,MQ,bounds,V5,fV,zdM,hB];refine Qd hρ U aq (cR:=cR) (cw:=cw) (G2:=cL.add BM.length) (more:=more) (l:=l) (rows:=rows) (gen:=gen) (cap:=none) (x:=x) h3 hrt (by omega) (by omega) We (aw.auto (by simp[jg]) (by simp[jg]) (by simp[jg]) (by simp[jg]<;>(intro x hx;first|omega|exact⟨.inl hx,by omega⟩))) ?_;rintro H nn log zNT rE ⟨wv,Qn,Wi,tU,Iz,x2,r5,r6,r7,g4,gr,k1,k2,k3⟩;have f0:H.get 0=some (.arr (cL.n+3) 0 [.sym 0::.own 1 cL.a 0 cR.length none::.own 2 (cL.b+BM.length) 0 cw.length none::jS 3 cL.n] true false false):=wv (0,mB 1 2 cR cw (cL.add BM.length)) (by simp[jg]);have f1:H.get 1=some (.arr 8 cL.a (cR.map dG) false false true):=wv (1,mS cR (cL.add BM.length)) (by simp[jg]);have f2:H.get 2=some (.arr 10 (cL.b+BM.length) (cw.map bW) false false true):=wv (2,mT cw (cL.add BM.length)) (by simp[jg]);have f3:H.get 3=some (jm (.ptr 0 0 1)):=wv (3,jm (.ptr 0 0 1)) (by simp[jg]);refine bO.mk (aw.lit (TL:=[(7,.ptr 3 0 0),(8,.ptr 4 0 0)]) (HL:=jg cR cw (cL.add BM.length)++[(3,jm (.ptr 0 0 1)),(4,jm (.own 5 Wi 0 (more++l).length tU)),(5,.arr 10 Wi (Iz.map cZ) x2 false true)]) (λi=>if i=5 then Qn else i) 7 ?_ ?_ ?_ ?_) ?_
         . simp[jg]
         . simp[jg,f0,f1,f2,f3,g4,gr]
         . simp[jg]<;>omega
         . simp[jg]<;>(intro x hx;first|omega|exact⟨.inl (by omega),by omega⟩)
         simp[jg];have:=bc Iz Wi tU x2 k1 k2 k3;rw[w9]at this;exact this _ _ (aw.auto (by simp[jg]) (by simp[jg]) (by simp[jg]) (by simp[jg]<;>(intro x hx;first|omega|exact⟨.inl hx,by omega⟩)))
       | some cc =>
         obtain rfl:=h3 cc rfl;simp[w9,sK,U,jg,hP,cL.hn,ue,hre,hw0,pS,lj,hF,aJ,EE,MQ,bounds,V5,fV,zdM,hB,hle];refine Qd hρ U aq (cR:=cR) (cw:=cw) (G2:=cL.add BM.length) (more:=more) (l:=l) (rows:=rows) (gen:=gen) (cap:=(some rows.length)) (x:=x) h3 hrt (by omega) (by omega) We (aw.auto (by simp[jg]) (by simp[jg]) (by simp[jg]) (by simp[jg]<;>(intro x hx;first|omega|exact⟨.inl hx,by omega⟩))) ?_;rintro H nn log zNT rE ⟨wv,Qn,Wi,tU,Iz,x2,r5,r6,r7,g4,gr,k1,k2,k3⟩;have f0:H.get 0=some (.arr (cL.n+3) 0 [.sym 0::.own 1 cL.a 0 cR.length none::.own 2 (cL.b+BM.length) 0 cw.length none::jS 3 cL.n] true false false):=wv (0,mB 1 2 cR cw (cL.add BM.length)) (by simp[jg]);have f1:H.get 1=some (.arr 8 cL.a (cR.map dG) false false true):=wv (1,mS cR (cL.add BM.length)) (by simp[jg]);have f2:H.get 2=some (.arr 10 (cL.b+BM.length) (cw.map bW) false false true):=wv (2,mT cw (cL.add BM.length)) (by simp[jg]);have f3:H.get 3=some (jm (.ptr 0 0 1)):=wv (3,jm (.ptr 0 0 1)) (by simp[jg]);refine bO.mk (aw.lit (TL:=[(7,.ptr 3 0 0),(8,.ptr 4 0 0)]) (HL:=jg cR cw (cL.add BM.length)++[(3,jm (.ptr 0 0 1)),(4,jm (.own 5 Wi 0 (more++l).length tU)),(5,.arr 10 Wi (Iz.map cZ) x2 false true)]) (λi=>if i=5 then Qn else i) 7 ?_ ?_ ?_ ?_) ?_
         . simp[jg]
         . simp[jg,f0,f1,f2,f3,g4,gr]
         . simp[jg]<;>omega
         . simp[jg]<;>(intro x hx;first|omega|exact⟨.inl (by omega),by omega⟩)
         simp[jg];have:=bc Iz Wi tU x2 k1 k2 k3;rw[w9]at this;exact this _ _ (aw.auto (by simp[jg]) (by simp[jg]) (by simp[jg]) (by simp[jg]<;>(intro x hx;first|omega|exact⟨.inl hx,by omega⟩)))
     . rw[if_neg hc]at hw;obtain⟨u3,lR⟩:=cB (bS hw);obtain⟨oj,Wg⟩:=ao.mk.inj u3
       have HQ:G3=cL.add BM.length:=by
        have:uc=Rx++BM:=by rw[<- Zi,e1,gu]at Wg;exact(nP Wg).symm
        rw[<- HQ,this,bB,<- MG.add_add,<- e2]
       subst lR oj HQ Wg;obtain⟨cw,w9⟩:∃ cw,mR++BM=cw:=⟨_,rfl⟩;simp[w9,sK,U,jg,hP,cL.hn,ue,hre,hw0,pS,lj,hF,aJ,hc];refine bO.mk (aw.auto (TL:=[(6,.int .i64 c)]) (HL:=jg cR cw (cL.add BM.length)) (n:=7) (by simp[jg]) (by simp[jg]) (by simp[jg]) (by simp[jg]<;>(intro x hx;first|omega|exact⟨.inl hx,by omega⟩))) ?_;simp[jg];exact aH.fu rfl rfl rfl (by simp)
end
end
def F6 (d f:Nat) (s:MS) (args:Z V):Y (V×MS):=match s.z with
 | some (a,b)=>(match args with
   | [av,bv]=>W (bo.dec av:Y G) λx=>W (bo.dec bv:Y G) λy=>W (ao.jq d f ⟨s.sl,s.tr⟩ [⟨x,y⟩]) λr=>some (.int .i64 r.2,⟨some (a,b+(r.1.b7.drop s.tr.length).length),r.1.a9,s.tr++r.1.b7.drop s.tr.length⟩)
   |_=>none)
 |none=>none
def P6{args:Z V}(h:F6 d f s args=some q):∃ (a b:Nat) (x y:G) (r:ao×Int),s.z=some (a,b)/\args=[enc x,enc y]/\ao.jq d f ⟨s.sl,s.tr⟩ [⟨x,y⟩]=some r /\
 q=(.int .i64 r.2,⟨some (a,b+(r.1.b7.drop s.tr.length).length),r.1.a9,s.tr++r.1.b7.drop s.tr.length⟩):=by
 unfold F6 at h;split at h
 . rename_i a b hz;split at h
   . simp only[aA]at h;obtain⟨x,hx,y,hy,r,hr,h⟩:=h;cases h;exact⟨a,b,x,y,r,hz,by rw[bo.bq _ _ hx,bo.bq _ _ hy],hr,rfl⟩
   . cases h
 . cases h
def Sy{b:Nat}{ex:Z Change}(h:ao.jq d f ⟨sl,tr⟩ [⟨x,y⟩]=some (⟨cS,tr++ex⟩,e)):F6 d f ⟨some (a,b),sl,tr⟩ [enc x,enc y]=some (.int .i64 e,⟨some (a,b+ex.length),cS,tr++ex⟩):=by
 show W (bo.dec (enc x):Y G) (λx=>W (bo.dec (enc y):Y G) λy=>W (ao.jq d f ⟨sl,tr⟩ [⟨x,y⟩]) _)=_;rw[bo.bZ,bo.bZ];show W (ao.jq d f ⟨sl,tr⟩ [⟨x,y⟩]) _=_;rw[h];simp
def uY(s:MS)(args:Z V):Y (V×MS):=match args with
 | [.int .i64 h,.bool b]=>gd (et (Nat.ble (dA s.sl) 10000) (Nat.ble (dA s.tr) 8000)) (some (enc (fq s.sl.length),⟨some (match s.z with|none=>(0,0)|some (x,y)=>(x+1,y+1)),s.sl++[⟨false,tT,h,b⟩],s.tr++[⟨s.sl.length,⟨false,tT,0,false⟩,true⟩]⟩))
 |_=>none
def JA{args:Z V}(h:uY s args=some q):∃ (h:Int) (b:Bool),args=[.int .i64 h,.bool b]/\s.sl.length<=10000/\s.tr.length<=8000 /\
 q=(enc (fq s.sl.length),⟨some (match s.z with|none=>(0,0)|some (x,y)=>(x+1,y+1)),s.sl++[⟨false,tT,h,b⟩],s.tr++[⟨s.sl.length,⟨false,tT,0,false⟩,true⟩]⟩):=by
 unfold uY at h;split at h
 . rename_i h' b;simp only[bE,dx,gY,dI]at h;obtain⟨⟨M,O⟩,h⟩:=h;cases h;exact⟨h',b,rfl,M,O,rfl⟩
 . cases h
@[simp] def lX    :uY ⟨none,sl,tr⟩ [.int .i64 h,.bool b]=gd (et (Nat.ble (dA sl) 10000) (Nat.ble (dA tr) 8000)) (some (enc (fq sl.length),⟨some (0,0),sl++[⟨false,tT,h,b⟩],tr++[⟨sl.length,⟨false,tT,0,false⟩,true⟩]⟩)):=(rfl)
@[simp] def lW {x y:Nat}    :uY ⟨some (x,y),sl,tr⟩ [.int .i64 h,.bool b]=gd (et (Nat.ble (dA sl) 10000) (Nat.ble (dA tr) 8000)) (some (enc (fq sl.length),⟨some (x+1,y+1),sl++[⟨false,tT,h,b⟩],tr++[⟨sl.length,⟨false,tT,0,false⟩,true⟩]⟩)):=(rfl)
section
variable (hρ:J.Good I)
include hρ
def zlx(d f:Nat):Valid I Pg 236 (eY (C9 1 (F6 d f))):=by
 refine Valid.sym (fo Tryz.func236 qH.2) λvs C D h=>?_
 obtain⟨args,n,s,s',r,ds,b,c,q,hF,_,rfl,_,hr,hg,b4⟩:=Gh h;obtain⟨ga,gb,x,y,R,hz,rfl,M,hq⟩:=P6 hF;cases hq;obtain⟨z,sl,tr⟩:=s;simp only at hz;subst hz;obtain⟨m,hm⟩:=ao.Ja d f M;have he:=hm.eq;have cQ:∀ ρ',J.Good ρ'->bH ρ' (EL [(263,eY (Gi (WX d))),(264,sj (Hg 276))]):=λρ' fF=>ag (ae (zvD fF d) (ae (zqX fF) aG))
 have O:ao.jq d f ⟨sl,tr⟩ [⟨x,y⟩]=some (⟨R.1.a9,tr++R.1.b7.drop tr.length⟩,R.2):=by rw[M];exact congrArg some (tL he rfl)
 exact sy hρ Tryz.func236 qH.2 rfl hg (λρ' fF=>⟨_,rfl,cQ ρ' fF,Q9 fF rfl (cQ ρ' fF) (g:=⟨ga,gb,n.n,n.h⟩) rfl rfl O⟩) b4
section
variable {E:Env}(U:E.P=Pg)(aq:bH I E)
include U aq
theorem Yx(hV:E.dE 162=dH (cO λi:Int=>some (fq i))){n:Nat}(hn:n<=1000) :
 Wp I E 1 38 A9.1 (((PT.leaf.set 0 (.ptr 0 0 1)).set 1 (.int .i64 h)).set 2 (.bool b)) { H:=dW [(0,mN n)],n:=1,log:=[] } (J.Leaves E.P Tryz.f76 (aH 1 (enc (fq 0)) [(0,mB 1 2 [⟨false,tT,h,b⟩] [⟨0,⟨false,tT,0,false⟩,true⟩] ⟨0,0,n,hn⟩),(1,mS [⟨false,tT,h,b⟩] ⟨0,0,n,hn⟩),(2,mT [⟨0,⟨false,tT,0,false⟩,true⟩] ⟨0,0,n,hn⟩)])):=by
 simp[U,hV,hn];refine aH.Zb (λk=>if k=1 then 17 else if k=2 then 29 else k) rfl rfl (by simp) ?_;simp[fq,tT]
theorem Yy(hV:E.dE 162=dH (cO λi:Int=>some (fq i)))(hl:sl.length<=10000)(ht:tr.length<=8000) :
 Wp I E 3 38 A9.1 (((PT.leaf.set 0 (.ptr 0 0 1)).set 1 (.int .i64 h)).set 2 (.bool b)) { H:=dW (jg sl tr g),n:=3,log:=[] } (J.Leaves E.P Tryz.f76 (aH 3 (enc (fq sl.length)) (jg (sl++[⟨false,tT,h,b⟩]) (tr++[⟨sl.length,⟨false,tT,0,false⟩,true⟩]) ⟨g.a+1,g.b+1,g.n,g.hn⟩))):=by
 obtain⟨ga,gb,gn,cV⟩:=g;have k1:(tr.length+1)*104<=1048576:=by omega
 have k2:(sl.length+1)*88<=1048576:=by omega
 simp[U,hV,cV,jg,k1,k2,aY];refine aH.Zb (λk=>k) rfl rfl (by simp) ?_;simp[fq,tT]
end
def zt4:Valid I Pg 76 (eY (C9 1 uY)):=by
 refine Valid.sym (fo Tryz.func76 A9.2) λvs C D h=>?_
 obtain⟨args,n,s,s',r,ds,b,c,q,hF,hz,rfl,_,hr,hg,b4⟩:=Gh h;obtain⟨ho,bb,rfl,M,O,hq⟩:=JA hF;cases hq;obtain⟨z,sl,tr⟩:=s;have cQ:∀ ρ',J.Good ρ'->bH ρ' (EL [(162,dH (cO λi:Int=>some (fq i)))]):=λρ' fF=>ag (ae (zt1 fF) aG)
 cases z with
 | none =>
   obtain⟨rfl,rfl⟩:=hz rfl;exact sy hρ Tryz.func76 A9.2 rfl hg (λρ' fF=>⟨_,rfl,cQ ρ' fF,Yx fF rfl (cQ ρ' fF) rfl n.h⟩) b4
 | some z =>
   obtain⟨x,y⟩:=z;exact sy hρ Tryz.func76 A9.2 rfl hg (λρ' fF=>⟨_,rfl,cQ ρ' fF,Yy fF rfl (cQ ρ' fF) (g:=⟨x,y,n.n,n.h⟩) rfl M O⟩) b4
end
def EO(s:MS)(args:Z V):Y (V×MS):=match args with
 | []=>uY s [.int .i64 1000000,.bool false]
 |_=>none
@[simp] def zEz :EO s []=uY s [.int .i64 1000000,.bool false]:=(rfl)
def jD(d f:Nat)(s:MS)(args:Z V):Y (V×MS):=W (F6 d f s args) λq=>(match q.1 with
 |.int .i64 e=>some (.bool (decide (e=0)),q.2)
 |_=>none)
def Xo{b:Nat}{ex:Z Change}(h:ao.jq d f ⟨sl,tr⟩ [⟨x,y⟩]=some (⟨cS,tr++ex⟩,e)):jD d f ⟨some (a,b),sl,tr⟩ [enc x,enc y]=some (.bool (decide (e=0)),⟨some (a,b+ex.length),cS,tr++ex⟩):=by
 unfold jD;rw[Sy h];rfl
def Gz{args:Z V}(h:jD d f s args=some q):∃ (a b:Nat) (x y:G) (cS:Z Slot) (ex:Z Change) (e:Int),s.z=some (a,b)/\args=[enc x,enc y]/\ao.jq d f ⟨s.sl,s.tr⟩ [⟨x,y⟩]=some (⟨cS,s.tr++ex⟩,e) /\
 q=(.bool (decide (e=0)),⟨some (a,b+ex.length),cS,s.tr++ex⟩):=by
 unfold jD at h;simp only[aA]at h;obtain⟨p,hp,h⟩:=h;obtain⟨a,b,x,y,r,hz,rfl,M,rfl⟩:=P6 hp;cases h;obtain⟨m,hm⟩:=ao.Ja d f M;refine⟨a,b,x,y,_,_,r.2,hz,rfl,?_,rfl⟩;rw[M];exact congrArg some (tL hm.eq rfl)
def yE(d f:Nat)(s:MS)(args:Z V):Y (V×MS):=match args with
 | [tv]=>W (bo.dec tv:Y G) λt=>W (uY s [.int .i64 1000000,.bool true]) λq=>jD d f q.2 [tv,q.1]
 |_=>none
section
variable (hρ:J.Good I)
include hρ
section
variable {E:Env}(U:E.P=Pg)(aq:bH I E)
include U aq
theorem PH(hA:E.dE 76=eY (C9 1 uY)) :
 Wp I E 1 7 kZ.1 (PT.leaf.set 0 (.ptr 0 0 0)) { H:=dW (uq n ⟨none,[],[]⟩),n:=1,log:=[] } (J.Leaves E.P Tryz.f200 (aH 1 (enc (fq 0)) (uq n ⟨some (0,0),[⟨false,tT,1000000,false⟩],[⟨0,⟨false,tT,0,false⟩,true⟩]⟩))):=by
 obtain⟨n,hn⟩:=n;simp[U,hA,hn,aJ];refine aH.Zb (λk=>if k=1 then 7 else if k=2 then 8 else k) rfl rfl (by simp) ?_;simp[fq,tT]
theorem PI(hA:E.dE 76=eY (C9 1 uY)){b:Nat}(hl:sl.length<=10000)(ht:tr.length<=8000) :
 Wp I E 3 7 kZ.1 (PT.leaf.set 0 (.ptr 0 0 0)) { H:=dW (uq n ⟨some (a,b),sl,tr⟩),n:=3,log:=[] } (J.Leaves E.P Tryz.f200 (aH 3 (enc (fq sl.length)) (uq n ⟨some (a+1,b+1),sl++[⟨false,tT,1000000,false⟩],tr++[⟨sl.length,⟨false,tT,0,false⟩,true⟩]⟩))):=by
 obtain⟨n,hn⟩:=n;simp[U,hA,hn,hl,ht,aJ];refine aH.Zb (λk=>k) rfl rfl (by simp) ?_;simp[fq,tT]
theorem RF(hW:E.dE 236=eY (C9 1 (F6 d f))){b:Nat}{ex:Z Change}(h:ao.jq d f ⟨sl,tr⟩ [⟨x,y⟩]=some (⟨cS,tr++ex⟩,e)) :
 Wp I E 3 14 rq.1 (((PT.leaf.set 0 (.ptr 0 0 0)).set 1 (enc x)).set 2 (enc y)) { H:=dW (uq n ⟨some (a,b),sl,tr⟩),n:=3,log:=[] } (J.Leaves E.P Tryz.f167 (aH 3 (.bool (decide (e=0))) (uq n ⟨some (a,b+ex.length),cS,tr++ex⟩))):=by
 obtain⟨n,hn⟩:=n;have hF:=Sy (a:=a) (b:=b) h;cases x;cases y;simp at hF;obtain⟨cw,w9⟩:∃ cw,tr++ex=cw:=⟨_,rfl⟩;rw[w9]at hF ⊢;simp[U,hW,hn,hF,aJ];exact aH.fu rfl rfl rfl (by simp)
end
def SB:Valid I Pg 200 (eY (C9 0 EO)):=by
 refine Valid.sym (fo Tryz.func200 kZ.2) λvs C D h=>?_
 obtain⟨args,n,s,s',r,ds,b,c,q,hF,hz,rfl,_,hr,hg,b4⟩:=Gh h;unfold EO at hF;split at hF
 . obtain⟨ho,bb,e,M,O,hq⟩:=JA hF;cases e;cases hq;obtain⟨z,sl,tr⟩:=s;have cQ:∀ ρ',J.Good ρ'->bH ρ' (EL [(76,eY (C9 1 uY))]):=λρ' fF=>ag (ae (zt4 fF) aG)
   cases z with
   | none =>
     obtain⟨rfl,rfl⟩:=hz rfl;exact sy hρ Tryz.func200 kZ.2 rfl hg (λρ' fF=>⟨_,rfl,cQ ρ' fF,PH fF rfl (cQ ρ' fF) rfl⟩) b4
   | some z =>
     cases z;exact sy hρ Tryz.func200 kZ.2 rfl hg (λρ' fF=>⟨_,rfl,cQ ρ' fF,PI fF rfl (cQ ρ' fF) rfl M O⟩) b4
 . cases hF
def Mv(d f:Nat):Valid I Pg 167 (eY (C9 0 (jD d f))):=by
 refine Valid.sym (fo Tryz.func167 rq.2) λvs C D h=>?_
 obtain⟨args,n,s,s',r,ds,b,c,q,hF,hz,rfl,_,hr,hg,b4⟩:=Gh h;obtain⟨ga,gb,x,y,cS,ex,e,Bm,rfl,M,hq⟩:=Gz hF;cases hq;cases s;simp only at Bm;subst Bm;have cQ:∀ ρ',J.Good ρ'->bH ρ' (EL [(236,eY (C9 1 (F6 d f)))]):=λρ' fF=>ag (ae (zlx fF d f) aG)
 exact sy hρ Tryz.func167 rq.2 rfl hg (λρ' fF=>⟨_,rfl,cQ ρ' fF,RF fF rfl (cQ ρ' fF) rfl M⟩) b4
end
def zkY{args:Z V}(h:uY s args=some q):∃ (a b:Nat) (i:Int),q.1=enc (fq i)/\q.2.z=some (a,b):=by
 obtain⟨_,_,_,_,_,rfl⟩:=JA h;exact⟨_,_,_,rfl,rfl⟩
def QC{args:Z V}(h:jD d f s args=some q):∃ (a b:Nat) (r:Bool),q.1=.bool r/\q.2.z=some (a,b):=by
 obtain⟨_,_,_,_,_,_,_,_,_,_,rfl⟩:=Gz h;exact⟨_,_,_,rfl,rfl⟩
def XZ{args:Z V}(h:yE d f s args=some q):∃ (x v:G) (a b a2 b2:Nat) (cY cR:Z Slot) (mR cw:Z Change) (r:Bool),args=[enc x]/\uY s [.int .i64 1000000,.bool true]=some (enc v,⟨some (a,b),cY,mR⟩) /\
 jD d f ⟨some (a,b),cY,mR⟩ [enc x,enc v]=some (.bool r,⟨some (a2,b2),cR,cw⟩)/\q=(.bool r,⟨some (a2,b2),cR,cw⟩):=by
 unfold yE at h;split at h
 . simp only[aA]at h;obtain⟨x,hx,p,hp,h⟩:=h;obtain⟨a,b,i,e1,e2⟩:=zkY hp;obtain⟨a2,b2,r,e3,e4⟩:=QC h;obtain⟨pv,z,cY,mR⟩:=p;obtain⟨qv,z2,cR,cw⟩:=q;simp only at e1 e2 e3 e4 h;subst e1 e2 e3 e4;have e5:=bo.bq _ _ hx;subst e5;exact⟨x,_,a,b,a2,b2,cY,cR,mR,cw,r,rfl,hp,h,rfl⟩
 . cases h
section
variable (hρ:J.Good I)
include hρ
section
variable {E:Env}(U:E.P=Pg)(aq:bH I E)
include U aq
theorem RH(hA:E.dE 76=eY (C9 1 uY))(hQ:E.dE 167=eY (C9 0 (jD d f))){a0 b0 b:Nat}{da:Z Slot}{eJ:Z Change}(M:uY ⟨none,[],[]⟩ [.int .i64 1000000,.bool true]=some (enc v,⟨some (a,b),cY,mR⟩))(O:jD d f ⟨some (a,b),cY,mR⟩ [enc x,enc v]=some (.bool r,⟨some (a2,b2),cR,cw⟩)) :
 Wp I E 1 12 lL.1 ((PT.leaf.set 0 (.ptr 0 0 0)).set 1 (enc x)) { H:=dW (uq n ⟨none,[],[]⟩),n:=1,log:=[] } (J.Leaves E.P Tryz.f166 (aH 1 (.bool r) (uq n ⟨some (a2,b2),cR,cw⟩))):=by
 obtain⟨n,hn⟩:=n;cases x;cases v;simp[-lX,-lW]at M O;simp[-lX,-lW,U,hA,hQ,hn,M,O,aJ];refine aH.Zb (λk=>if k=1 then 11 else if k=2 then 12 else k) rfl rfl (by simp) ?_;simp
theorem RI(hA:E.dE 76=eY (C9 1 uY))(hQ:E.dE 167=eY (C9 0 (jD d f))){b:Nat}(M:uY ⟨some (a0,b0),da,eJ⟩ [.int .i64 1000000,.bool true]=some (enc v,⟨some (a,b),cY,mR⟩))(O:jD d f ⟨some (a,b),cY,mR⟩ [enc x,enc v]=some (.bool r,⟨some (a2,b2),cR,cw⟩)) :
 Wp I E 3 12 lL.1 ((PT.leaf.set 0 (.ptr 0 0 0)).set 1 (enc x)) { H:=dW (uq n ⟨some (a0,b0),da,eJ⟩),n:=3,log:=[] } (J.Leaves E.P Tryz.f166 (aH 3 (.bool r) (uq n ⟨some (a2,b2),cR,cw⟩))):=by
 obtain⟨n,hn⟩:=n;cases x;cases v;simp[-lX,-lW]at M O;simp[-lX,-lW,U,hA,hQ,hn,M,O,aJ];exact aH.fu rfl rfl rfl (by simp)
end
def zgk(d f:Nat):Valid I Pg 166 (eY (C9 0 (yE d f))):=by
 refine Valid.sym (fo Tryz.func166 lL.2) λvs C D h=>?_
 obtain⟨args,n,s,s',r,ds,b,c,q,hF,hz,rfl,_,hr,hg,b4⟩:=Gh h;obtain⟨x,v,a1,b1,a2,b2,cY,cR,mR,cw,r,rfl,M,O,hq⟩:=XZ hF;cases hq;obtain⟨z,sl,tr⟩:=s;have cQ:∀ ρ',J.Good ρ'->bH ρ' (EL [(76,eY (C9 1 uY)),(167,eY (C9 0 (jD d f)))]):=λρ' fF=>ag (ae (zt4 fF) (ae (Mv fF d f) aG))
 cases z with
 | none =>
   obtain⟨rfl,rfl⟩:=hz rfl;exact sy hρ Tryz.func166 lL.2 rfl hg (λρ' fF=>⟨_,rfl,cQ ρ' fF,RH (a0:=0) (b0:=0) (da:=[]) (eJ:=[]) fF rfl (cQ ρ' fF) rfl rfl M O⟩) b4
 | some z =>
   cases z;exact sy hρ Tryz.func166 lL.2 rfl hg (λρ' fF=>⟨_,rfl,cQ ρ' fF,RI fF rfl (cQ ρ' fF) rfl rfl M O⟩) b4
end
def NL:J.Spec:=dH (cO λl:Z G=>if l≠[]/\l.length<=1000 then some l else none)
def Du:J.Spec:=dH (dC λ(n:Z Nat) (l:Z G)=>if l≠[]/\l.length<=1000 then some (G.mk 4 n 0 0 l)else none)
section
variable (hρ:J.Good I)
include hρ
section
variable {E:Env}(U:E.P=Pg)(aq:bH I E)
include U aq
def zcC{l:Z G}(hl:l.length<=1000)(C:HS):aT I Pg 82 [enc (t::l)] C (enc (t::l)) C:=by
 refine fn hρ U aq Tryz.func82 ib.2 rfl (by simp) ?_ C;have Ph:∀ e es tg,RN Pg .eql 33 (.sl (e::es) tg) .aE=some (.bool false):=λ_ _ _=>by rfl
 have sg:(l.length+1)*64<=1048576:=by omega
 simp[U,Ph,sg]
def zta(hC:E.dE 82=NL){n:Z Nat}{l:Z G}(hl:l.length+1<=1000)(C:HS):aT I Pg 88 [enc n,enc (t::l)] C (enc (G.mk 4 n 0 0 (t::l))) C:=by
 refine fn hρ U aq Tryz.func88 A8.2 rfl (by simp) ?_ C;have er:∀ m:Z G,m=t::l->(m≠[]/\m.length<=1000):=by rintro _ rfl;exact⟨by simp,by simpa using hl⟩
 simp[U,hC,NL,hl]
def zkP(hC:E.dE 88=Du){a b:G}(C:HS):aT I Pg 90 [enc a,enc b] C (enc (G.mk 4 [45,62] 0 0 [a,b])) C:=by
 refine fn hρ U aq Tryz.func90 K9.2 rfl (by simp) ?_ C;cases a;cases b;simp[U,hC,Du]
end
def zlP:Valid I Pg 82 NL:=v1 (fo Tryz.func82 ib.2) λa r h C=>by
 obtain⟨⟨M,O⟩,rfl⟩:=bF h
 cases a with
 |nil=>exact absurd rfl M
 |cons t l=>exact zcC hρ (E:=EL []) rfl (ag aG) (by simp only[aX]at O;omega) C
def zt2:Valid I Pg 88 Du:=v2 (fo Tryz.func88 A8.2) λa b r h C=>by
 obtain⟨⟨M,O⟩,rfl⟩:=bF h
 cases b with
 |nil=>exact absurd rfl M
 |cons t l=>exact zta hρ (E:=EL [(82,NL)]) rfl (ag (ae (zlP hρ) aG)) rfl (by simpa using O) C
def zgf:Valid I Pg 90 (dH (dC λa b:G=>some (G.mk 4 [45,62] 0 0 [a,b]))):=v2 (fo Tryz.func90 K9.2) λa b r h C=>by
 cases h;exact zkP hρ (E:=EL [(88,Du)]) rfl (ag (ae (zt2 hρ) aG)) rfl C
end
def XM(es:Z (Z V))(vs:Z V):Y (Z (Z V)×V):=match es,vs with
 | [],[.str n]=>some ([],.agg [.int .i64 4,.str n,.int .i64 0,.int .i64 0,.sl [] false])
 |_,_=>none
@[simp] def zHK {n:Z Nat}:XM [] [.str n]=some ([],.agg [.int .i64 4,.str n,.int .i64 0,.int .i64 0,.sl [] false]):=(rfl)
def NN(es:Z (Z V))(vs:Z V):Y (Z (Z V)×V):=match es,vs with
 | [],[]=>some ([],.sl [] false)
 |_,_=>none
@[simp] def zAD:NN [] []=some ([],.sl [] false):=(rfl)
def K3:J.Spec:=λvs C=>match vs with
 | [.str n,.own id g o m c]=>(match m with
   | 0=>Cp 1 5 XM [.str n,.own id g o 0 c] C
   |m+1=>Du [.str n,.own id g o (m+1) c] C)
 | [.str n,.sl es t]=>Du [.str n,.sl es t] C
 |_=>none
section
variable {n:Z Nat}{id g o m:Nat}{c:Y Nat}{es:Z (Z V)}{t:Bool}
@[simp] def zAC:K3 [.str n,.own id g o 0 c] C=Cp 1 5 XM [.str n,.own id g o 0 c] C:=(rfl)
@[simp] def zAB:K3 [.str n,.own id g o (m+1) c] C=Du [.str n,.own id g o (m+1) c] C:=(rfl)
def Valid.zKH(hA:Valid I P f (Cp 1 5 XM))(hB:Valid I P f Du):Valid I P f K3 where
 fn:=hA.fn
 ok:=by
  intro vs C v a8 hq;unfold K3 at hq;split at hq
  . split at hq
    . exact hA.ok hq
    . exact hB.ok hq
  . exact hB.ok hq
  . cases hq
 kept:=by
  intro vs C q hq;unfold K3 at hq;split at hq
  . split at hq
    . exact hA.kept hq
    . exact hB.kept hq
  . exact hB.kept hq
  . cases hq
end
section
variable (hρ:J.Good I)
include hρ
section
variable {E:Env}(U:E.P=Pg)(aq:bH I E)
include U aq
theorem zoR:Wp I E 1 8 ib.1 (PT.leaf.set 0 (.own 0 0 0 0 (some 0))) { H:=dW [(0,KJ 5 [])],n:=1,log:=[] } (J.Leaves E.P Tryz.f82 (aH 1 (.sl [] false) [(0,KJ 5 [])])):=by
 have Ph:RN Pg .eql 33 (.own 0 0 0 0 (some 0)) .aE=some (.bool false):=by rfl
 simp[U,Ph,KJ];exact aH.bw
theorem zxX(hC:E.dE 82=Cp 0 5 NN){n:Z Nat}:Wp I E 1 9 A8.1 ((PT.leaf.set 0 (.str n)).set 1 (.own 0 0 0 0 (some 0))) { H:=dW [(0,KJ 5 [])],n:=1,log:=[] } (J.Leaves E.P Tryz.f88 (aH 1 (.agg [.int .i64 4,.str n,.int .i64 0,.int .i64 0,.sl [] false]) [(0,KJ 5 [])])):=by
 simp[U,hC,KJ];exact aH.bw
end
def zgj:Valid I Pg 82 (Cp 0 5 NN):=by
 refine Valid.mt (fo Tryz.func82 ib.2) λes pre post r M O h3 h4 h5 h6 h7 C id hid hg=>?_
 obtain rfl:=List.length_eq_zero_iff.1 M;unfold NN at h4;split at h4
 . rename_i e;cases h4;simp only[iI]at e;subst e;exact mt (pre:=[]) (post:=[]) hρ (E:=EL []) rfl (ag aG) Tryz.func82 ib.2 rfl rfl rfl rfl rfl rfl (zoR hρ rfl (ag aG)) hid hg
 . cases h4
def zBW:Valid I Pg 88 (Cp 1 5 XM):=by
 refine Valid.mt (fo Tryz.func88 A8.2) λes pre post r M O h3 h4 h5 h6 h7 C id hid hg=>?_
 unfold XM at h4;split at h4
 . rename_i n e;cases h4;obtain⟨a,rfl⟩:=oC.1 M;rw[eU,iI]at e;obtain⟨rfl,rfl⟩:=List.cons_eq_cons.1 e;exact mt (pre:=[.str n]) (post:=[]) hρ (E:=EL [(82,Cp 0 5 NN)]) rfl (ag (ae (zgj hρ) aG)) Tryz.func88 A8.2 rfl rfl rfl rfl rfl rfl (zxX hρ rfl (ag (ae (zgj hρ) aG)) rfl) hid hg
 . cases h4
def zlC:Valid I Pg 88 K3:=Valid.zKH (zBW hρ) (zt2 hρ)
end
abbrev arr(a b:G):G:=G.mk 4 [45,62] 0 0 [a,b]
def Mi:J.Spec:=dH (dC λa b:G=>some (arr a b))
section
variable (hρ:J.Good I)
include hρ
section
variable {E:Env}(U:E.P=Pg)(aq:bH I E)
include U aq
theorem Kt(hF:E.dE 200=eY (C9 0 EO))(hQ:E.dE 167=eY (C9 0 (jD d f)))(hW:E.dE 199=yq KA (wA (E2 Ie)))(hR:E.dE 90=Mi)
  {a1 b1 a3 b3:Nat} {F4:Z Slot} {Ff:Z Change} {w u:G}  (hl:da.length<=1000000) (hw:ao.w ⟨da,eJ⟩ x=w) (hk:w.kind=1)
 (M:uY ⟨some (a0,b0),da,eJ⟩ [.int .i64 1000000,.bool false]=some (enc v,⟨some (a1,b1),cY,mR⟩)) (O:uY ⟨some (a1,b1),cY,mR⟩ [.int .i64 1000000,.bool false]=some (enc u,⟨some (a2,b2),cR,cw⟩)) (h3:jD d f ⟨some (a2,b2),cR,cw⟩ [enc w,enc (arr v u)]=some (.bool r,⟨some (a3,b3),F4,Ff⟩)) :
 Wp I E 3 35 gV.1 ((PT.leaf.set 0 (.ptr 0 0 0)).set 1 (enc x)) { H:=dW (uq n ⟨some (a0,b0),da,eJ⟩),n:=3,log:=[] } (J.Leaves E.P Tryz.f125 (aH 3 (.tuple [enc v,enc u,.bool r]) (uq n ⟨some (a3,b3),F4,Ff⟩))):=by
 obtain⟨n,hn⟩:=n;cases x;cases w;cases v;cases u;simp only[G.fw]at hk;subst hk;simp[-lX,-lW]at M O h3;simp[-lX,-lW,U,hF,hQ,hW,hR,Mi,hn,hl,hw,M,O,h3,aJ];exact aH.fu rfl rfl rfl (by simp)
theorem Kv(hW:E.dE 199=yq KA (wA (E2 Ie)))(hI:E.dE 40=dH (cO λt:G=>some (isArrow t)))
     {w:G} (hl:da.length<=1000000) (hw:ao.w ⟨da,eJ⟩ x=w) (hk:w.kind≠1) :
 Wp I E 3 35 gV.1 ((PT.leaf.set 0 (.ptr 0 0 0)).set 1 (enc x)) { H:=dW (uq n ⟨some (a0,b0),da,eJ⟩),n:=3,log:=[] } (J.Leaves E.P Tryz.f125 (aH 3 (.tuple [enc (isArrow w).a,enc (isArrow w).b,.bool (isArrow w).c]) (uq n ⟨some (a0,b0),da,eJ⟩))):=by
 obtain⟨n,hn⟩:=n;obtain⟨ar,ke⟩:∃ ar,isArrow w=ar:=⟨_,rfl⟩;rw[ke];obtain⟨aa,ab,ac⟩:=ar;cases x;cases w;cases aa;cases ab;simp only[G.fw]at hk;simp[U,hW,hI,hn,hl,hw,hk,ke,aJ];exact aH.fu rfl rfl rfl (by simp)
theorem Ku(hW:E.dE 199=yq KA (wA (E2 Ie)))(hI:E.dE 40=dH (cO λt:G=>some (isArrow t)))
  {w:G} (hw:ao.w ⟨[],[]⟩ x=w) (hk:w.kind≠1) :
 Wp I E 1 35 gV.1 ((PT.leaf.set 0 (.ptr 0 0 0)).set 1 (enc x)) { H:=dW (uq n ⟨none,[],[]⟩),n:=1,log:=[] } (J.Leaves E.P Tryz.f125 (aH 1 (.tuple [enc (isArrow w).a,enc (isArrow w).b,.bool (isArrow w).c]) (uq n ⟨none,[],[]⟩))):=by
 obtain⟨n,hn⟩:=n;obtain⟨ar,ke⟩:∃ ar,isArrow w=ar:=⟨_,rfl⟩;rw[ke];obtain⟨aa,ab,ac⟩:=ar;cases x;cases w;cases aa;cases ab;simp only[G.fw]at hk;simp[U,hW,KA,hI,hn,hw,hk,ke,aJ];exact aH.fu rfl rfl rfl (by simp)
end
end
end Go.Proofs.YtfloillkpbhhhaaGreat
