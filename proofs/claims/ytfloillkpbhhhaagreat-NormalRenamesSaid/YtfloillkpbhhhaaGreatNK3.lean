import Derived.Test.YtfloillkpbhhhaaGreatNK2
import Derived.Test.YtfloillkpbhhhaaGreatJK10
import Derived.Test.YtfloillkpbhhhaaGreatJK11
import Derived.Test.YtfloillkpbhhhaaGreatJK8
import Derived.Test.YtfloillkpbhhhaaGreatJK9
import Derived.WalkKit
import Derived.LaidEql
set_option linter.all false
noncomputable section
namespace Go.Proofs.YtfloillkpbhhhaaGreat
open Go.J
open Go.J.bo (enc)
set_option maxRecDepth 100000
set_option maxHeartbeats 4000000
variable {b r tg:Bool}{c:Ctor}{E:Env}{Q:Ex->PT V->HS->Prop}{t x y:G}{C:HS}{e h:Int}{o:J.Obj}{S:J.Spec}{G2 g:MG}{s:MS}{a a0 a2 b0 b2 d f i j k p:Nat}{π:Nat->Nat}{μ:Nat->Nat->Y MI}{F:Nat->Prop}{I:Nat->Value}{H:PT J.Obj}{T:PT V}{P:Program}{v:V}{q:V×MS}{N cI:Z (Z Nat)}{m:Z Am}{nR tr fc cC v7:Z Change}{D:Z Decl}{fs l:Z G}{n:Z Nat}{sl cW dj dv cV:Z Slot}{vs:Z V}
section
variable (hρ:J.Good I)
include hρ
section
variable (U:E.P=Pg)(aq:bK I E)
include U aq
def PK{xk xi xh yk yi yh:Int}{xn yn:Z Nat}{xl yl:Z G}(hl:xl.length=yl.length)(fX:xl.length<=1000000){sz:Nat}(hk:k=4)(cd:sz=164)
 (hT:aw k T C (dP [(12,.own 6 0 0 xl.length (some xl.length)),(6,.ptr 4 0 0),(7,.ptr 5 0 0),(144,.int .i64 (xl.length:Int)),(145,.int .i64 ((0:Nat):Int))]) { H:=dP (fD sl tr g++[(4,.arr 5 0 [[.int .i64 xk,.str xn,.int .i64 xi,.int .i64 xh,.sl (xl.map aA) false]] true false false),(5,.arr 5 0 [[.int .i64 yk,.str yn,.int .i64 yi,.int .i64 yh,.sl (yl.map aA) false]] true false false)]++[(6,ZP [] xl.length)]),n:=8,log:=[] })
 (hQ:Q (.exit 1) (dP [(12,.own 6 0 0 xl.length (some xl.length))]) { H:=dP (fD sl tr g++[(6,ZP (SF xl yl) 0)]),n:=8,log:=[] }) :
 Ls I E k sz (.loop uP) T C Q:=by
 subst hk cd;let⟨ga,gb,gn,cX⟩:=g
 refine rA hρ U aq xl.length (nn:=8) (λi (_:Unit)=>[(12,.own 6 0 0 xl.length (some xl.length)),(6,.ptr 4 0 0),(7,.ptr 5 0 0),(144,.int .i64 (xl.length:Int)),(145,.int .i64 (i:Int))])
  (λi _=>fD sl tr ⟨ga,gb,gn,cX⟩++[(4,.arr 5 0 [[.int .i64 xk,.str xn,.int .i64 xi,.int .i64 xh,.sl (xl.map aA) false]] true false false),(5,.arr 5 0 [[.int .i64 yk,.str yn,.int .i64 yi,.int .i64 yh,.sl (yl.map aA) false]] true false false)]++[(6,ZP ((SF xl yl).take i) (xl.length-i))]) (λ_ _=>True) () (by simpa using hT) trivial ?_ ?_
 intro _ _ K;rw[aP (by rw[Ub hl];exact af _),iW];simp[cX,uP,U,fD,ZP];refine bM.mk (aw.auto ?_ ?_ ?_ ?_) hQ;simp[fD];simp[fD,ZP];simp[fD];simp[fD]<;>(intro x W;first|omega|exact⟨.inl W,by omega⟩)
 intro i _ hi _ K hK;have cm:(i:Int)<xl.length:=by omega
 have ra:i<yl.length:=by omega
 have hw:IntKind.i64.wrap ((i:Int)+1)=((i+1:Nat):Int):=bG (by omega);have Aj:(i*5) / 5=i:=by omega
 have zQi:(i*10) / 10=i:=by omega
 have zQh:(i*10) % 10=0:=by omega
 have aE:=hK () trivial;have zMq:i=((SF xl yl).take i).length:=by rw[dR,Ub hl];omega
 obtain⟨n,hn⟩:∃ n,xl.length-i=n+1:=⟨xl.length-i-1,by omega⟩;have u5:xl.length-(i+1)=n:=by omega
 have t1:=znm (n:=n) zMq;have t2:=zsF (n:=n) (y:=⟨xl[i],yl[i]⟩) zMq;rw[zje hi ra,u5]at aE;rw[hn];generalize (SF xl yl).take i=L at t1 t2 aE zMq;obtain⟨u,hu⟩:∃ u,xl[i]=u:=⟨_,rfl⟩;obtain⟨v,hv⟩:∃ v,yl[i]=v:=⟨_,rfl⟩;rw[hu,hv]at t2 aE;let⟨uk,un,ui,uh,ul⟩:=u;let⟨vk,vn,vi,vh,vl⟩:=v;simp only[di,L4,G.fH,G.j4,G.wP,G.Kv,G.iT]at t1 t2;simp[cX,uP,U,fD,ZP,L4,hi,cm,ra,hu,hv,zQi,zQh,hw,t1,t2,-Int.natCast_add,-List.map_append];exact aE _ _ (aw.auto (by simp[fD,-Int.natCast_add]) (by simp[fD,ZP,L4]) (by simp[fD]) (by simp[fD]<;>(intro x W;first|omega|exact⟨.inl W,by omega⟩)))
def Xf  (hZ:E.dA 132=qd) (hW:E.dA 199=AG Ld (zp (Hn IZ))) (Tj:E.dA 273=zr (GN Ji)) (hJ:E.dA 274=fu (GN Vx)) (hB:E.dA 275=fu (GN (WC d)))    {a b:G} (eC:ao.Kj d ⟨sl,tr⟩ a b) {l:Z bZ}   {ex:Z Change} (h:ao.mG ⟨sl,tr⟩ a b=(l,e,⟨cW,tr++ex⟩)) :
 Wp I E 4 164 tF.1 ((PT.leaf.set 0 (.ptr 0 0 0)).set 1 (enc (⟨a,b⟩:bZ))) { H:=dP (fD sl tr g),n:=4,log:=[] } (J.Leaves E.P Tryz.f263 λv C=>aJ 4 (.tuple [enc l,.int .i64 e]) (fD cW (tr++ex) (g.add ex.length)) v C\/wH 4 (.tuple [enc l,.int .i64 e]) (fD cW (tr++ex) (g.add ex.length)) v C):=by
 let⟨ga,gb,gn,cX⟩:=g;let⟨iv,oE,PD,ON,tj⟩:=eC;have e2:(max (200:Int) 0).toNat=200:=rfl;have kx:sl.length<=1000:=iv.1;have h6:sl.length<=1000000:=by omega
 have js:∀ {n:Int},(([]:Z bZ),n,(⟨sl,tr⟩:ao))=(l,e,⟨cW,tr++ex⟩)->l=[]/\e=n/\sl=cW/\ex=[]:=by
  intro n hh;let⟨M,O⟩:=cO hh;let⟨h3,h4⟩:=cO O;let⟨h5,h6⟩:=ao.mk.inj h4;have h7:ex=[]:=by simpa using h6
  exact⟨M.symm,h3.symm,h5,h7⟩
 unfold ao.mG at h;obtain⟨na,VZ⟩:∃ n,sz (ao.w ⟨sl,tr⟩) a 200=n:=⟨_,rfl⟩;obtain⟨nb,Xz⟩:∃ n,sz (ao.w ⟨sl,tr⟩) b 200=n:=⟨_,rfl⟩;have hfa:na<=200->∃ r,Rz (ao.w ⟨sl,tr⟩) a r/\r.size<=200:=λhn=>zhv.1 (by rw[VZ];exact hn);rw[VZ,Xz]at h;obtain⟨x,KZ⟩:∃ x,ao.w ⟨sl,tr⟩ a=x:=⟨_,rfl⟩;obtain⟨y,n8⟩:∃ y,ao.w ⟨sl,tr⟩ b=y:=⟨_,rfl⟩;rw[KZ,n8]at h tj;have se:x.ok=true:=KZ ▸ ao.Uh iv _ oE;have zP0:y.ok=true:=n8 ▸ ao.Uh iv _ PD
 have hxl:na<=200->x.args.length<=200:=by
  intro hn;let⟨r,hr,A6⟩:=hfa hn;let⟨m,hm,kj⟩:=zbl.1 hr;rw[KZ]at hm;have M:=hm.zjO;have O:=ziT m;have h3:r.args=m:=by rw[kj];rfl
  have h4:=G.size_eq r;rw[h3]at h4;omega
 clear hfa;have Lx:=Uv sl tr x;have KA:=Uv sl tr y;let⟨ak,an,ai,ah,al⟩:=a;let⟨bk,bn,zM6,bh,bl⟩:=b;by_cases c0:200<na;have oY:(200:Int)<(na:Int):=by omega
 rw[if_pos (.inl c0)]at h;obtain⟨rfl,rfl,rfl,rfl⟩:=js h;simp[cX,U,fD,hZ,qd,iv,oE,e2,oY,VZ];exact .inl (aJ.bw);have oY:¬ (200:Int)<(na:Int):=by omega
 by_cases c1:200<nb;have ot:(200:Int)<(nb:Int):=by omega
 rw[if_pos (.inr c1)]at h;obtain⟨rfl,rfl,rfl,rfl⟩:=js h;simp[cX,U,fD,hZ,qd,iv,oE,PD,e2,oY,VZ,Xz,ot];exact .inl (aJ.bw);have ot:¬ (200:Int)<(nb:Int):=by omega
 rw[if_neg (by rintro (h|h)<;>omega)]at h;replace hxl:=hxl (by omega);by_cases fa:ao.sU ⟨sl,tr⟩ x=true;let⟨J1,i,z6,cF,hsx⟩:=ao.OB fa;rw[if_pos fa,hsx]at Lx;by_cases fb:ao.sU ⟨sl,tr⟩ y=true;let⟨Hh,j,A2,ju,hsy⟩:=ao.OB fb;rw[if_pos fb,hsy]at KA;by_cases rI:i=j;rw[if_pos ⟨J1,Hh,by rw[z6,A2,rI]⟩]at h;obtain⟨rfl,rfl,rfl,rfl⟩:=js h;obtain⟨p,hp⟩:∃ p,sl[i]=p:=⟨_,rfl⟩;obtain⟨q,hq⟩:∃ q,sl[j]=q:=⟨_,rfl⟩;rw[hp]at Lx;rw[hq]at KA;let⟨xk,xn,xi,xh,xl⟩:=x;let⟨yk,yn,yi,yh,yl⟩:=y;let⟨pb,⟨pk,pn,pi,ph,pl⟩,pm,pg⟩:=p;let⟨qb,⟨qk,qn,qi,qh,ql⟩,qm,qg⟩:=q;simp only[G.fH,G.wP]at J1 Hh z6 A2;subst J1 Hh z6 A2 rI;simp at Lx KA;simp[cX,U,fD,hZ,qd,iv,oE,PD,e2,oY,ot,hW,h6,aK,KZ,n8,Tj,Lx,KA,VZ,Xz];exact .inl (aJ.bw);rw[if_neg (by rintro ⟨_,_,h3⟩;rw[z6,A2]at h3;omega),if_pos fa,if_pos fb]at h;have rB:=(cO h).1;have wi:=(cO (cO h).2).1;have E7:=(cO (cO h).2).2;subst rB wi;have hij2:¬ (i:Int)=j:=by omega
 have hF:=zo0 z6 A2 cF ju rI (by simp only at ON;omega) kx E7;clear h E7 tj;obtain⟨p,hp⟩:∃ p,sl[i]=p:=⟨_,rfl⟩;obtain⟨q,hq⟩:∃ q,sl[j]=q:=⟨_,rfl⟩;rw[hp]at Lx;rw[hq]at KA;let⟨xk,xn,xi,xh,xl⟩:=x;let⟨yk,yn,yi,yh,yl⟩:=y;let⟨pb,⟨pk,pn,pi,ph,pl⟩,pm,pg⟩:=p;let⟨qb,⟨qk,qn,qi,qh,ql⟩,qm,qg⟩:=q;simp only[G.fH,G.wP]at J1 Hh z6 A2;subst J1 Hh z6 A2;simp at Lx KA hF;obtain⟨cC,xN⟩:∃ cC,tr++ex=cC:=⟨_,rfl⟩;simp[cX,xN,U,fD,hZ,qd,iv,oE,PD,e2,oY,ot,hW,h6,aK,KZ,n8,Tj,Lx,KA,hij2,VZ,Xz,hJ,hF];exact .inl (aJ.bw);rw [if_neg fb]at KA;let⟨rm,od,hv3⟩:=tj x y (.inl ⟨rfl,rfl⟩) fa;rw[z6]at hv3;have hF:=zd2 z6 cF iv zP0 rm hv3 (by simp only at ON;omega) kx;obtain⟨p,hp⟩:∃ p,sl[i]=p:=⟨_,rfl⟩;rw[hp]at Lx;by_cases iz:y.kind=1/\x.id=y.id;rw[if_pos ⟨J1,iz.1,iz.2⟩]at h;obtain⟨rfl,rfl,rfl,rfl⟩:=js h;clear hF tj;let⟨xk,xn,xi,xh,xl⟩:=x;let⟨yk,yn,yi,yh,yl⟩:=y;let⟨pb,⟨pk,pn,pi,ph,pl⟩,pm,pg⟩:=p;simp only[G.fH,G.wP]at J1 z6 iz;let⟨hs4,hs5⟩:=iz;subst J1 hs4 hs5 z6;simp[Et]at Lx KA;simp[cX,U,fD,hZ,qd,iv,oE,PD,e2,oY,ot,hW,h6,aK,KZ,n8,Tj,Lx,KA,VZ,Xz];exact .inl (aJ.bw);rw[if_neg (by rintro ⟨_,O,h3⟩;exact iz ⟨O,h3⟩),if_pos fa,if_neg fb,z6]at h;have rB:=(cO h).1;have wi:=(cO (cO h).2).1;have E7:=(cO (cO h).2).2;rw[E7]at hF;rw[wi]at hF;simp only[List.drop_left]at hF;subst rB;clear h E7 wi tj;let⟨xk,xn,xi,xh,xl⟩:=x;let⟨yk,yn,yi,yh,yl⟩:=y;let⟨pb,⟨pk,pn,pi,ph,pl⟩,pm,pg⟩:=p;simp only[G.fH,G.wP]at J1 z6 iz;subst J1 z6;simp[Et]at Lx KA;simp at hF;by_cases hy1:yk=1;have hs4:¬ (i:Int)=yi:=λe=>iz ⟨hy1,e⟩;subst hy1;obtain⟨cC,xN⟩:∃ cC,tr++ex=cC:=⟨_,rfl⟩;simp[cX,xN,U,fD,hZ,qd,iv,oE,PD,e2,oY,ot,hW,h6,aK,KZ,n8,Tj,Lx,KA,hs4,VZ,Xz,hB,hF];exact .inl (aJ.bw)
 skip
 obtain⟨cC,xN⟩:∃ cC,tr++ex=cC:=⟨_,rfl⟩;simp[cX,xN,U,fD,hZ,qd,iv,oE,PD,e2,oY,ot,hW,h6,aK,KZ,n8,Tj,Lx,KA,hy1,VZ,Xz,hB,hF];exact .inl (aJ.bw);rw [if_neg fa]at Lx;by_cases fb:ao.sU ⟨sl,tr⟩ y=true;let⟨Hh,j,A2,ju,hsy⟩:=ao.OB fb;rw[if_pos fb,hsy]at KA;let⟨rm,od,hv3⟩:=tj y x (.inr ⟨rfl,rfl⟩) fb;rw[A2]at hv3;have hF:=zd2 A2 ju iv se rm hv3 (by simp only at ON;omega) kx;obtain⟨p,hp⟩:∃ p,sl[j]=p:=⟨_,rfl⟩;rw[hp]at KA;by_cases iz:x.kind=1/\x.id=y.id;rw[if_pos ⟨iz.1,Hh,iz.2⟩]at h;obtain⟨rfl,rfl,rfl,rfl⟩:=js h;clear hF tj;let⟨xk,xn,xi,xh,xl⟩:=x;let⟨yk,yn,yi,yh,yl⟩:=y;let⟨pb,⟨pk,pn,pi,ph,pl⟩,pm,pg⟩:=p;simp only[G.fH,G.wP]at Hh A2 iz;let⟨hs4,hs5⟩:=iz;subst Hh hs4 hs5 A2;simp[Et]at Lx KA;simp[cX,U,fD,hZ,qd,iv,oE,PD,e2,oY,ot,hW,h6,aK,KZ,n8,Tj,Lx,KA,VZ,Xz];exact .inl (aJ.bw);rw[if_neg (by rintro ⟨M,_,h3⟩;exact iz ⟨M,h3⟩),if_neg fa,if_pos fb,A2]at h;have rB:=(cO h).1;have wi:=(cO (cO h).2).1;have E7:=(cO (cO h).2).2;rw[E7]at hF;rw[wi]at hF;simp only[List.drop_left]at hF;subst rB;clear h E7 wi tj;let⟨xk,xn,xi,xh,xl⟩:=x;let⟨yk,yn,yi,yh,yl⟩:=y;let⟨pb,⟨pk,pn,pi,ph,pl⟩,pm,pg⟩:=p;simp only[G.fH,G.wP]at Hh A2 iz;subst Hh A2;simp[Et]at Lx KA;simp at hF;by_cases A4:xk=1;have hs4:¬ xi=(j:Int):=λe=>iz ⟨A4,e⟩;subst A4;obtain⟨cC,xN⟩:∃ cC,tr++ex=cC:=⟨_,rfl⟩;simp[cX,xN,U,fD,hZ,qd,iv,oE,PD,e2,oY,ot,hW,h6,aK,KZ,n8,Tj,Lx,KA,hs4,VZ,Xz,hB,hF];exact .inl (aJ.bw)
 skip
 obtain⟨cC,xN⟩:∃ cC,tr++ex=cC:=⟨_,rfl⟩;simp[cX,xN,U,fD,hZ,qd,iv,oE,PD,e2,oY,ot,hW,h6,aK,KZ,n8,Tj,Lx,KA,A4,VZ,Xz,hB,hF];exact .inl (aJ.bw);rw [if_neg fb]at KA;simp[Et]at Lx KA;clear tj;let⟨xk,xn,xi,xh,xl⟩:=x;let⟨yk,yn,yi,yh,yl⟩:=y;simp only[G.fH,G.wP,G.iT]at h hxl;rw[if_neg fa,if_neg fb]at h;simp at Lx KA;by_cases M:xk=yk;subst M;by_cases hn:xn=yn;subst hn;by_cases hi:xi=yi;subst hi;by_cases hv:xk=1;subst hv;rw[if_pos ⟨rfl,rfl,rfl⟩]at h;obtain⟨rfl,rfl,rfl,rfl⟩:=js h;simp[cX,U,fD,hZ,qd,iv,oE,PD,e2,oY,ot,hW,h6,aK,KZ,n8,Tj,Lx,KA,VZ,Xz];exact .inl (aJ.bw);rw [if_neg (λhh=>hv hh.1)]at h;by_cases hh:xh=yh;subst hh;by_cases hl:xl.length=yl.length;rw[if_neg (by unfold ao.gA;simp[hl])]at h;have rB:=(cO h).1;have wi:=(cO (cO h).2).1;have E7:=(cO (cO h).2).2;let⟨zQn,zQm⟩:=ao.mk.inj E7;have zQl:ex=[]:=by simpa using zQm.symm
 replace rB:l=SF xl yl:=rB.symm;subst rB wi zQn zQl;have GF:=Ub hl;have ht:List.take xl.length (List.map di (SF xl yl))=List.map di (SF xl yl):=aP (by rw[aN,GF];exact af _);have r1:xl.length*128<=1048576:=by omega
 have r2:xl.length*10<=1048576:=by omega
 have Bs:yl.length=xl.length:=hl.symm;simp[cX,U,fD,hZ,qd,iv,oE,PD,e2,oY,ot,hW,h6,aK,KZ,n8,Tj,Lx,KA,VZ,Xz,hv,Bs,r1,r2,-List.map_replicate];refine PK hρ U aq (sl:=sl) (tr:=tr) (g:=⟨ga,gb,gn,cX⟩) (xk:=xk) (xn:=xn) (xi:=xi) (xh:=xh) (xl:=xl) (yk:=xk) (yn:=xn) (yi:=xi) (yh:=xh) (yl:=yl) hl (by omega) rfl rfl (aw.auto (by simp[fD]) (by simp[fD,ZP,L4]) (by simp[fD]) (by simp[fD]<;>(intro x W;first|omega|exact⟨.inl W,by omega⟩))) ?_;simp[cX,U,fD,ZP];exact .inr (wH.bw (ea:=by simp[kV,GF,ht]));have vc:¬ (xl.length:Int)=yl.length:=by omega
 rw[if_pos (by unfold ao.gA;simp[hl])]at h;obtain⟨rfl,rfl,rfl,rfl⟩:=js h;simp[cX,U,fD,hZ,qd,iv,oE,PD,e2,oY,ot,hW,h6,aK,KZ,n8,Tj,Lx,KA,VZ,Xz,hv,vc];exact .inl (aJ.bw);rw[if_pos (by unfold ao.gA;simp[hh])]at h;obtain⟨rfl,rfl,rfl,rfl⟩:=js h;simp[cX,U,fD,hZ,qd,iv,oE,PD,e2,oY,ot,hW,h6,aK,KZ,n8,Tj,Lx,KA,VZ,Xz,hv,hh];exact .inl (aJ.bw);rw[if_neg (λhh=>hi hh.2.2),if_pos (by unfold ao.gA;simp[hi])]at h;obtain⟨rfl,rfl,rfl,rfl⟩:=js h;by_cases hv:xk=1;subst hv;simp[cX,U,fD,hZ,qd,iv,oE,PD,e2,oY,ot,hW,h6,aK,KZ,n8,Tj,Lx,KA,VZ,Xz,hi];exact .inl (aJ.bw);simp[cX,U,fD,hZ,qd,iv,oE,PD,e2,oY,ot,hW,h6,aK,KZ,n8,Tj,Lx,KA,VZ,Xz,hi,hv];exact .inl (aJ.bw);have ew:ao.gA (.mk xk xn xi xh xl) (.mk xk yn yi yh yl):=.inr (.inl hn);by_cases hv:xk=1/\xi=yi;rw[if_pos ⟨hv.1,hv.1,hv.2⟩]at h;obtain⟨rfl,rfl,rfl,rfl⟩:=js h;let⟨rm,od⟩:=hv;subst rm od;simp[cX,U,fD,hZ,qd,iv,oE,PD,e2,oY,ot,hW,h6,aK,KZ,n8,Tj,Lx,KA,VZ,Xz];exact .inl (aJ.bw);rw[if_neg (λhh=>hv ⟨hh.1,hh.2.2⟩),if_pos ew]at h;obtain⟨rfl,rfl,rfl,rfl⟩:=js h;by_cases rm:xk=1;have hi:¬ xi=yi:=λe=>hv ⟨rm,e⟩;subst rm;simp[cX,U,fD,hZ,qd,iv,oE,PD,e2,oY,ot,hW,h6,aK,KZ,n8,Tj,Lx,KA,VZ,Xz,hn,hi];exact .inl (aJ.bw);simp[cX,U,fD,hZ,qd,iv,oE,PD,e2,oY,ot,hW,h6,aK,KZ,n8,Tj,Lx,KA,VZ,Xz,hn,rm];exact .inl (aJ.bw);have ew:ao.gA (.mk xk xn xi xh xl) (.mk yk yn yi yh yl):=.inl M;rw[if_neg (λhh=>M (hh.1.trans hh.2.1.symm)),if_pos ew]at h;obtain⟨rfl,rfl,rfl,rfl⟩:=js h;by_cases hv:xk=1;subst hv;have od:¬ yk=1:=λe=>M e.symm;simp[cX,U,fD,hZ,qd,iv,oE,PD,e2,oY,ot,hW,h6,aK,KZ,n8,Tj,Lx,KA,VZ,Xz,M,od];exact .inl (aJ.bw);simp[cX,U,fD,hZ,qd,iv,oE,PD,e2,oY,ot,hW,h6,aK,KZ,n8,Tj,Lx,KA,VZ,Xz,M,hv];exact .inl (aJ.bw)
end
end
open Classical in
def X8(d:Nat)(sl:Z Slot)(tr:Z Change)(args:Z V):Y (V×Z Slot×Z Change):=match args with
 | [ev]=>ob (bo.dec ev:Y bZ) λe=>if ao.Kj d ⟨sl,tr⟩ e.left e.right then some (.tuple [enc (ao.mG ⟨sl,tr⟩ e.left e.right).1,.int .i64 (ao.mG ⟨sl,tr⟩ e.left e.right).2.1],(ao.mG ⟨sl,tr⟩ e.left e.right).2.2.bc,(ao.mG ⟨sl,tr⟩ e.left e.right).2.2.b9.drop tr.length)else none
 |_=>none
def zko{args:Z V}{q:V×Z Slot×Z Change}(h:X8 d sl tr args=some q):∃ e:bZ,args=[enc e]/\ao.Kj d ⟨sl,tr⟩ e.left e.right/\q=(.tuple [enc (ao.mG ⟨sl,tr⟩ e.left e.right).1,.int .i64 (ao.mG ⟨sl,tr⟩ e.left e.right).2.1],(ao.mG ⟨sl,tr⟩ e.left e.right).2.2.bc,(ao.mG ⟨sl,tr⟩ e.left e.right).2.2.b9.drop tr.length):=by
 unfold X8 at h;split at h;simp only[aC]at h;let⟨e,he,h⟩:=h;split at h;rename_i hh;cases h;exact⟨e,by rw[bo.bB _ _ he],hh,rfl⟩;cases h;cases h
open Classical in
def zoh{e:bZ}(hh:ao.Kj d ⟨sl,tr⟩ e.left e.right){l:Z bZ}{c:Int}{ex:Z Change}(h:ao.mG ⟨sl,tr⟩ e.left e.right=(l,c,⟨cW,tr++ex⟩)):X8 d sl tr [enc e]=some (.tuple [enc l,.int .i64 c],cW,ex):=by
 show ob (bo.dec (enc e):Y bZ) _=_;rw[bo.dD];show (if ao.Kj d ⟨sl,tr⟩ e.left e.right then _ else none)=_;rw[if_pos hh,h];simp
def Yt(s:ao)(a b:G):∃ m,ao.kB s (s.mG a b).2.2 m:=by
 unfold ao.mG;split;exact⟨0,.refl _ _⟩;split;exact⟨0,.refl _ _⟩;split;split;exact⟨_,ao.Yu _ _ _⟩;exact⟨_,ao.FZ _ _ _⟩;split;exact⟨_,ao.FZ _ _ _⟩;split;exact⟨0,.refl _ _⟩;exact⟨0,.refl _ _⟩
section
variable (hρ:J.Good I)
include hρ
def zw9(d:Nat):Valid I Pg 263 (fu (GN (X8 d))):=by
 refine Valid.sym (fo Tryz.func263 tF.2) λvs C D h=>?_;obtain⟨args,sl,tr,g,r,cW,ex,ds,a,b,c,f,hF,rfl,_,hr,hg,b4⟩:=Kt h;obtain⟨e,rfl,M,hq⟩:=zko hF;cases hq;have VI:(EL [(132,qd),(199,AG Ld (zp (Hn IZ))),(273,zr (GN Ji)),(274,fu (GN Vx)),(275,fu (GN (WC d)))]).P=Pg:=rfl
 have cR:∀ ρ',J.Good ρ'->bK ρ' (EL [(132,qd),(199,AG Ld (zp (Hn IZ))),(273,zr (GN Ji)),(274,fu (GN Vx)),(275,fu (GN (WC d)))]):=λρ' fI =>
  aj (ae (Zo fI) (ae (Valid.AG (zeF fI) (zhl fI)) (ae (zmT fI) (ae (zxa fI) (ae (zxb fI d) aH)))))
 let⟨m,hm⟩:=Yt ⟨sl,tr⟩ e.left e.right;have he:=hm.eq;have heq:ao.mG ⟨sl,tr⟩ e.left e.right=((ao.mG ⟨sl,tr⟩ e.left e.right).1,(ao.mG ⟨sl,tr⟩ e.left e.right).2.1,⟨(ao.mG ⟨sl,tr⟩ e.left e.right).2.2.bc,tr++(ao.mG ⟨sl,tr⟩ e.left e.right).2.2.b9.drop tr.length⟩):=uf rfl (uf rfl he);cases e;exact Uo hρ follows named Tryz.func263 tF.2 rfl hg (λρ' fI=>⟨_,VI,cR ρ' fI,Xf fI VI (cR ρ' fI) rfl rfl rfl rfl rfl M heq⟩) (λ_ _ h=>h) b4
def zsl:Valid I Pg 264 (sI (Ip 276)):=by
 refine Valid.Ft (fo Tryz.func264 kS.2) λvs C D h=>?_;obtain⟨es,tg,rfl,hg,b4⟩:=QT h;refine em hρ (E:=EL []) rfl (aj aH) Tryz.func264 kS.2 rfl hg ?_ b4;show Wp I _ 0 _ _ _ { H:=dP [],n:=0,log:=[] } (J.Leaves _ _ (aJ 0 (.func 276 [.ptr 0 0 0]) [(0,jw (.sl es tg))]));simp;exact aJ.bw
end
def jm(sl:Z Slot)(tr:Z Change)(g:MG):Z (Nat×J.Obj):=[(0,mB 1 2 sl tr g),(1,mS sl g),(2,mT tr g)]
section
variable (hρ:J.Good I)
include hρ
section
variable (U:E.P=Pg)(aq:bK I E)
include U aq
def Ri     {more l rows:Z bZ} {gen:Nat} {cap:Y Nat} {x:Bool} (pC:∀ c,cap=some c->c=rows.length) (M:rows.take l.length=l.reverse) (O:l.length<=rows.length) (fX:l.length<=7000) (RJ:more.length<=1000)
    (hT:aw k T C (dP [(7,.ptr 3 0 0),(8,.ptr 4 0 0),(43,.func 276 [.ptr 6 0 0])]) { H:=dP (jm cV cC G2++[(3,jw (.ptr 0 0 1)),(4,jw (.own 5 gen 0 l.length cap)),(5,.arr 10 gen (rows.map di) x false true),(6,jw (.sl (more.map di) false))]),n:=7,log:=[] })
 (hQ:∀ H n log,7<n->(∀ i,n<=i->H.get i=none)->zAl (jm cV cC G2++[(3,jw (.ptr 0 0 1)),(6,jw (.sl (more.map di) false))]) (more++l) H->bM k Q .normal (dP [(7,.ptr 3 0 0),(8,.ptr 4 0 0),(43,.func 276 [.ptr 6 0 0])]) { H:=H,n:=n,log:=log }) :
 Ls I E k 50 (.range (.tmp 43) #[44,45] Ec oG) T C Q:=by
 have zld:∀ p∈jm cV cC G2++[(3,jw (.ptr 0 0 1)),(6,jw (.sl (more.map di) false))],p.1<4\/p.1=6:=by intro p hp;simp only[jm,dx,gL,ay,aU,or_false]at hp;rcases hp with rfl|rfl|rfl|rfl|rfl<;>simp
 refine oJ (TZ hT ?_);refine zei hρ aq (by rw[U];exact follows) (by rw[U];exact named) ?_
 refine zbp (f:=276) (fn:=Tryz.f276) (tS:=278) (tE:=277) (tI:=3) (tB:=4) (IS:=ZD) (IE:=Q3) (val:=λe=>.agg e) (bx:=6) (by rw[U];exact Tryz.func276) qo.2 (by kernel_rfl) (by kernel_rfl) (by rw[U];simp) (by simp) (by rw[U];simp) (es:=more.map di) (tg:=false) (by rw[zDY.2.1];exact zbZ _) ?_ ?_ (by simp) (by simp[jm]) (by omega) ?_ ?_
  (λj H=>zAl (jm cV cC G2++[(3,jw (.ptr 0 0 1)),(6,jw (.sl (more.map di) false))]) (more.drop j++l) H)
  (λj e T H n=>zQV (jm cV cC G2++[(3,jw (.ptr 0 0 1)),(6,jw (.sl (more.map di) false))]) (more.drop (j+1)++l) e T H n)
  (λj H o h=>zi2 (λp hp=>by have:=zld p hp;omega) h) ?_ ?_ (JJ:=λ_ _=>False) (λ_ _ _ _ h=>h) (λ_ _ _ _ h=>h) ?_ ?_ ?_ (λ_ _ _ _ _ h=>h.elim)
 intro e he;obtain⟨c,_,rfl⟩:=aF.1 he;simp;simp;omega;intro i hi;obtain⟨j,rfl⟩:∃ j,i=j+7:=⟨i-7,by omega⟩;simp[jm];intro v1 v2;exact⟨_,rfl⟩;rintro j e T H n o ⟨g1,g2,id,g3,g4,g5,g6⟩;exact⟨zi2 (λp hp=>by have:=zld p hp;omega) g1,g2,id,g3,g4,g5,by rw[PT.cZ,if_neg (by omega)];exact g6⟩;rw[aN,bz,gL];refine⟨λp hp=>?_,5,gen,cap,rows,x,by omega,by omega,by omega,by simp[jm],by simp[jm],M,O,pC⟩;simp only[jm,dx,gL,ay,aU,or_false]at hp;rcases hp with rfl|rfl|rfl|rfl|rfl<;>simp[jm]
 intro i e he H n log T1 hn hv hI hz;cases hz;have hs:∀ j,H.get (n+j)=none:=λj=>hv _ (by omega);have ka:=hv n (af _);have h7:¬ 7=n:=by omega
 have h6:¬ 6=n:=by omega
 obtain⟨c,rfl⟩:∃ c,e=di c:=by have hm:=aI he;obtain⟨c,_,rfl⟩:=aF.1 hm;exact⟨c,rfl⟩
 refine Zh (I:=I) (k:=0) rfl ?_;simp[Ec,U,hs,ka,h7,h6];refine⟨λj hj=>?_,zqN ka hI,by simp,n,by simp,by omega,by omega,by simp⟩;rw[if_neg (by omega),if_neg (by omega)];exact hv j (by omega);rintro i e he H n log T2 hn hv ⟨hI,t8,id,zHF,i7,iN,gid⟩;have hs:∀ j,H.get (n+j)=none:=λj=>hv _ (by omega);have ka:=hv n (af _);let⟨yv,Rw,gen,cap,rows,x,r5,r6,r7,g4,gr,k1,k2,k3⟩:=hI;obtain⟨q,hq⟩:∃ q,more[i]?=some q:=by rw[bC,bH]at he;let⟨c,hc,_⟩:=he;exact⟨c,hc⟩
 have At:e=di q:=by rw[bC,hq]at he;exact(bT he).symm
 subst At;have cF:=(aM.1 hq).1;have hci:=(aM.1 hq).2;have hE:more.drop i++l=q::(more.drop (i+1)++l):=by rw[aG cF,hci];rfl
 have Em:(more.drop (i+1)++l).length<=8000:=by rw[aR,wm];omega
 rw[hE];generalize more.drop (i+1)++l=cI at k1 k2 g4 Em;obtain⟨J,hJ⟩:∃ J,rows=cI.reverse++J:=⟨rows.drop cI.length,by rw[<- k1,List.take_append_drop]⟩;obtain⟨A,hA⟩:∃ A,cI.reverse=A:=⟨_,rfl⟩;have zJr:cI.length=A.length:=by rw[<- hA,rf]
 have hA2:(q::cI).reverse=A++[q]:=by rw[List.reverse_cons,hA]
 rw[hA]at hJ;subst hJ;obtain⟨N,hN⟩:∃ N,cI.length=N:=⟨_,rfl⟩;rw[hN]at g4 Em zJr;subst zJr;have hrn:Rw<n:=jN λhle=>by rw[hv Rw hle]at gr;cases gr
 have nr:∀ j,¬ Rw=n+j:=λj=>by omega
 have zLb:∀ j,¬ n+j=Rw:=λj=>by omega
 have nr0:¬ Rw=n:=by omega
 have n4:∀ j,¬ 4=n+j:=λj=>by omega
 have n40:¬ 4=n:=by omega
 have zLe:¬ Rw=4:=by omega
 have zLd:¬ 4=Rw:=by omega
 have n6:¬ 6=Rw:=by omega
 have n7:¬ 7=Rw:=by omega
 have zIz:∀ j,¬ 6=n+j:=λj=>by omega
 have zIy:∀ j,¬ 7=n+j:=λj=>by omega
 have nid:∀ j,¬ id=n+j:=λj=>by omega
 have eA:(A.length+1)*128<=1048576:=by omega
 have lO:∀ (c d:Z V) (J':Z bZ),kF (A.map di++c::J'.map di) A.length [d]=A.map di++d::J'.map di:=λc d J'=>zks (by rw[aN]);have zpe:=lO
 try simp only[di]at zpe
 have gE:List.take A.length (A.map di)=A.map di:=aP (by rw[aN];exact af _);refine Zh (I:=I) (k:=0) rfl ?_
 cases cap with
 | none =>
   cases J with
   | nil =>
     simp[oG,U,hs,t8,zHF,g4,gr,gid,nr,n4,zLd,n6,n7,zIz,zIy,eA,zLb,gE,bf,eH];refine⟨λj hj=>?_,λp hp=>?_,Rw,gen+1,none,A++[q],false,by omega,by omega,by omega,?_,?_,?_,?_,λc hc=>by cases hc⟩
     . repeat rw[if_neg (by omega)]
       exact hv j (by omega)
     . have:=zld p hp;simp only[PT.cZ]
       repeat rw[if_neg (by omega)]
       exact yv p hp
     simp[PT.cZ,hN]<;>omega
     simp[PT.cZ,zLe]<;>omega
     rw[hA2];exact aP (by simp[hN]);simp[hN]
   | cons y J =>
     simp[oG,U,hs,t8,zHF,g4,gr,gid,nr,n4,zLd,n6,n7,zIz,zIy,eA,zpe,zLb,eH];refine⟨λj hj=>?_,λp hp=>?_,Rw,gen,none,A++q::J,x,by omega,by omega,by omega,?_,?_,?_,?_,λc hc=>by cases hc⟩
     . repeat rw[if_neg (by omega)]
       exact hv j (by omega)
     . have:=zld p hp;simp only[PT.cZ]
       repeat rw[if_neg (by omega)]
       exact yv p hp
     simp[PT.cZ,hN]<;>omega
     simp[PT.cZ,zLe]<;>omega
     rw[hA2];rw[show (q::cI).length=(A++[q]).length by simp[hN],show A++q::J=(A++[q])++J by simp,List.take_left];simp[hN]
 | some c =>
   have hc:=k3 c rfl
   cases J with
   | nil =>
     simp[oG,U,hs,t8,zHF,g4,gr,gid,nr,n4,zIz,zIy,eA,gE,hc,bf,eH];refine⟨λj hj=>?_,λp hp=>?_,(n+3),0,none,A++[q],false,by omega,by omega,by omega,?_,?_,?_,?_,λc hc=>by cases hc⟩
     . repeat rw[if_neg (by omega)]
       exact hv j (by omega)
     . have:=zld p hp;simp only[PT.cZ]
       repeat rw[if_neg (by omega)]
       exact yv p hp
     simp[PT.cZ,hN]<;>omega
     simp[PT.cZ]<;>omega
     rw[hA2];exact aP (by simp[hN]);simp[hN]
   | cons y J =>
     simp[oG,U,hs,t8,zHF,g4,gr,gid,nr,n4,zLd,n6,n7,zIz,zIy,eA,zpe,zLb,hc,eH];refine⟨λj hj=>?_,λp hp=>?_,Rw,gen,(some (A++q::J).length),A++q::J,x,by omega,by omega,by omega,?_,?_,?_,?_,λc hc=>by cases hc;rfl⟩
     . repeat rw[if_neg (by omega)]
       exact hv j (by omega)
     . have:=zld p hp;simp only[PT.cZ]
       repeat rw[if_neg (by omega)]
       exact yv p hp
     simp[PT.cZ,hN]<;>omega
     simp[PT.cZ,zLe]<;>omega
     rw[hA2];rw[show (q::cI).length=(A++[q]).length by simp[hN],show A++q::J=(A++[q])++J by simp,List.take_left];simp[hN]
 rintro H n log hn hv hI;rw[sJ]at hI;exact hQ H n log hn hv hI
theorem SH  (hP:E.dA 263=fu (GN (X8 d))) (hB:E.dA 264=sI (Ip 276))    {a b:G}    (h:ao.lQ d f ⟨sl,tr⟩ [⟨a,b⟩]=some (⟨cW,tr++v7⟩,e)) :
 Wp I E 3 50 qQ.1 (((PT.leaf.set 0 (.ptr 0 0 1)).set 1 (enc a)).set 2 (enc b)) { H:=dP (jm sl tr g),n:=3,log:=[] } (J.Leaves E.P Tryz.f236 (aJ 3 (.int .i64 e) (jm cW (tr++v7) (g.add v7.length)))):=by
 obtain⟨Gz,N1⟩:∃ Gz,tr++v7=Gz:=⟨_,rfl⟩;obtain⟨G3,Ks⟩:∃ G3,g.add v7.length=G3:=⟨_,rfl⟩;rw[N1]at h;rw[N1,Ks];let⟨ak,an,ai,ah,al⟩:=a;let⟨bk,bn,zM6,bh,bl⟩:=b;simp[U,jm]
 refine rA hρ U aq f (nn:=7) (λi (_:Z Slot×Z Change×MG×Z bZ×Z bZ×Nat×Y Nat×Bool)=>[(7,.ptr 3 0 0),(8,.ptr 4 0 0)])
  (λi st=>jm st.1 st.2.1 st.2.2.1++[(3,jw (.ptr 0 0 1)),(4,jw (.own 5 st.2.2.2.2.2.1 0 st.2.2.2.1.length st.2.2.2.2.2.2.1)),(5,.arr 10 st.2.2.2.2.2.1 (st.2.2.2.2.1.map di) st.2.2.2.2.2.2.2 false true)])
  (λi st=>(∃ Tm,st.2.1=tr++Tm/\st.2.2.1=g.add Tm.length)/\st.2.2.2.2.1.take st.2.2.2.1.length=st.2.2.2.1.reverse/\st.2.2.2.1.length<=st.2.2.2.2.1.length/\(∀ c,st.2.2.2.2.2.2.1=some c->c=st.2.2.2.2.1.length)/\ao.lQ d (f-i) ⟨st.1,st.2.1⟩ st.2.2.2.1=some (⟨cW,Gz⟩,e))
  (sl,tr,g,[⟨.mk ak an ai ah al,.mk bk bn zM6 bh bl⟩],[⟨.mk ak an ai ah al,.mk bk bn zM6 bh bl⟩],0,some 1,true)
  (aw.auto (by simp[jm]) (by simp[jm]) (by simp[jm]) (by simp[jm]<;>(intro x W;first|omega|exact⟨.inl W,by omega⟩))) ⟨⟨[],by simp,by simp⟩,by simp,by simp,by simp,by simpa using h⟩ ?_ ?_
 rintro ⟨dv,nR,cN,l,rows,gen,cap,x⟩ ⟨_,_,_,_,hw⟩ K;rw[iW,ao.lQ]at hw;cases hw
 . rintro i ⟨dv,nR,cN,l,rows,gen,cap,x⟩ hi ⟨⟨Tm,e1,e2⟩,M,O,h3,hw⟩ K hK;obtain⟨n,hn⟩:∃ n,f-i=n+1:=⟨f-i-1,by omega⟩;have u5:f-(i+1)=n:=(by omega);rw[hn]at hw;simp only at e1 e2 M O h3 hw
   cases l with
   | nil =>
     rw[ao.lQ]at hw;let⟨we,nj⟩:=cO (bT hw);let⟨pr,hq4⟩:=ao.mk.inj we;have Ks:G3=cN:=(by grind [List.append_cancel_left]);subst nj pr hq4 Ks;simp[sW,U,jm];refine bM.mk (aw.auto (TL:=[]) (HL:=jm dv nR G3) (n:=7) (by simp[jm]) (by simp[jm]) (by simp[jm]) (by simp[jm]<;>(intro x W;first|omega|exact⟨.inl W,by omega⟩))) ?_;simp[jm];exact aJ.fC rfl rfl rfl (by simp)
   | cons e0 l =>
     rw[ao.lQ]at hw;split at hw
     case isFalse=>cases hw
     rename_i eC;let⟨eC,fX,RJ⟩:=eC;let⟨mg,zOk⟩:=Yt ⟨dv,nR⟩ e0.left e0.right;let⟨Cr,t3,t4⟩:=zOk.b9;obtain⟨Q,hQ⟩:∃ Q,ao.mG ⟨dv,nR⟩ e0.left e0.right=Q:=⟨_,rfl⟩;rw[hQ]at hw t3 RJ;let⟨more,c,cV,cC⟩:=Q;simp only at hw t3 RJ;subst t3;have hF:=zoh eC hQ;clear zOk t4 hQ eC;have wa:l.length<rows.length:=(by simp only[aL]at O;omega);have hre:rows[l.length]=e0:=(by have:=congrArg (λq=>q[l.length]?) M;grind);have hrt:rows.take l.length=l.reverse:=(by have:=congrArg (λq=>q.take l.length) M;grind);have hle:l.length<=rows.length:=(by omega);have hrl:((e0::l).length:Int)=(l.length:Int)+1:=(by simp);have On:IntKind.i64.wrap (l.length:Int)=(l.length:Int):=(by rw[wrap_i64 (by omega) (by omega)]);have rh:l.length*10 / 10=l.length:=(by omega);have ld:l.length*10 % 10=0:=(by omega);let⟨⟨pk,pn,pi,ph,pl⟩,⟨qk,qn,qi,qh,ql⟩⟩:=e0;simp at hF;by_cases hc:c=0;subst hc;rw[if_pos rfl]at hw
     have aE:∀ (Jk:Z bZ) (Xy:Nat) (vm:Y Nat) (x2:Bool),Jk.take (more++l).length=(more++l).reverse->(more++l).length<=Jk.length->(∀ c,vm=some c->c=Jk.length)->_:=λJk Xy vm x2 q1 q2 q3 =>
      hK (cV,nR++Cr,cN.add Cr.length,more++l,Jk,Xy,vm,x2) ⟨⟨Tm++Cr,by simp[e1],by simp only;rw[aR,<- MG.add_add,<- e2]⟩,q1,q2,q3,by rw[u5];exact hw⟩
     clear hK hw M e2;obtain⟨cC,xN⟩:∃ cC,nR++Cr=cC:=⟨_,rfl⟩
     cases cap with
     | none =>
       simp[xN,sW,U,jm,hP,cN.hn,wa,hre,On,rh,ld,hF,aK,xE,NF,bounds,NZ,fE,zeQ,hB];refine Ri hρ U aq (cV:=cV) (cC:=cC) (G2:=cN.add Cr.length) (more:=more) (l:=l) (rows:=rows) (gen:=gen) (cap:=none) (x:=x) h3 hrt (by omega) (by omega) RJ (aw.auto (by simp[jm]) (by simp[jm]) (by simp[jm]) (by simp[jm]<;>(intro x W;first|omega|exact⟨.inl W,by omega⟩))) ?_;rintro H nn log zQg nN ⟨yv,Rw,Xy,vm,Jk,x2,r5,r6,r7,g4,gr,k1,k2,k3⟩;have f0:H.get 0=some (.arr (cN.n+3) 0 [.sym 0::.own 1 cN.a 0 cV.length none::.own 2 (cN.b+Cr.length) 0 cC.length none::jT 3 cN.n] true false false):=yv (0,mB 1 2 cV cC (cN.add Cr.length)) (by simp[jm]);have f1:H.get 1=some (.arr 8 cN.a (cV.map dK) false false true):=yv (1,mS cV (cN.add Cr.length)) (by simp[jm]);have f2:H.get 2=some (.arr 10 (cN.b+Cr.length) (cC.map bW) false false true):=yv (2,mT cC (cN.add Cr.length)) (by simp[jm]);have f3:H.get 3=some (jw (.ptr 0 0 1)):=yv (3,jw (.ptr 0 0 1)) (by simp[jm]);refine bM.mk (aw.lit (TL:=[(7,.ptr 3 0 0),(8,.ptr 4 0 0)]) (HL:=jm cV cC (cN.add Cr.length)++[(3,jw (.ptr 0 0 1)),(4,jw (.own 5 Xy 0 (more++l).length vm)),(5,.arr 10 Xy (Jk.map di) x2 false true)]) (λi=>if i=5 then Rw else i) 7 ?_ ?_ ?_ ?_) ?_;simp[jm];simp[jm,f0,f1,f2,f3,g4,gr];simp[jm]<;>omega
       simp[jm]<;>(intro x W;first|omega|exact⟨.inl (by omega),by omega⟩)
       simp[jm];have:=aE Jk Xy vm x2 k1 k2 k3;rw[xN]at this;exact this _ _ (aw.auto (by simp[jm]) (by simp[jm]) (by simp[jm]) (by simp[jm]<;>(intro x W;first|omega|exact⟨.inl W,by omega⟩)))
     | some cc =>
       obtain rfl:=h3 cc rfl;simp[xN,sW,U,jm,hP,cN.hn,wa,hre,On,rh,ld,hF,aK,xE,NF,bounds,NZ,fE,zeQ,hB,hle];refine Ri hρ U aq (cV:=cV) (cC:=cC) (G2:=cN.add Cr.length) (more:=more) (l:=l) (rows:=rows) (gen:=gen) (cap:=(some rows.length)) (x:=x) h3 hrt (by omega) (by omega) RJ (aw.auto (by simp[jm]) (by simp[jm]) (by simp[jm]) (by simp[jm]<;>(intro x W;first|omega|exact⟨.inl W,by omega⟩))) ?_;rintro H nn log zQg nN ⟨yv,Rw,Xy,vm,Jk,x2,r5,r6,r7,g4,gr,k1,k2,k3⟩;have f0:H.get 0=some (.arr (cN.n+3) 0 [.sym 0::.own 1 cN.a 0 cV.length none::.own 2 (cN.b+Cr.length) 0 cC.length none::jT 3 cN.n] true false false):=yv (0,mB 1 2 cV cC (cN.add Cr.length)) (by simp[jm]);have f1:H.get 1=some (.arr 8 cN.a (cV.map dK) false false true):=yv (1,mS cV (cN.add Cr.length)) (by simp[jm]);have f2:H.get 2=some (.arr 10 (cN.b+Cr.length) (cC.map bW) false false true):=yv (2,mT cC (cN.add Cr.length)) (by simp[jm]);have f3:H.get 3=some (jw (.ptr 0 0 1)):=yv (3,jw (.ptr 0 0 1)) (by simp[jm]);refine bM.mk (aw.lit (TL:=[(7,.ptr 3 0 0),(8,.ptr 4 0 0)]) (HL:=jm cV cC (cN.add Cr.length)++[(3,jw (.ptr 0 0 1)),(4,jw (.own 5 Xy 0 (more++l).length vm)),(5,.arr 10 Xy (Jk.map di) x2 false true)]) (λi=>if i=5 then Rw else i) 7 ?_ ?_ ?_ ?_) ?_;simp[jm];simp[jm,f0,f1,f2,f3,g4,gr];simp[jm]<;>omega
       simp[jm]<;>(intro x W;first|omega|exact⟨.inl (by omega),by omega⟩)
       simp[jm];have:=aE Jk Xy vm x2 k1 k2 k3;rw[xN]at this;exact this _ _ (aw.auto (by simp[jm]) (by simp[jm]) (by simp[jm]) (by simp[jm]<;>(intro x W;first|omega|exact⟨.inl W,by omega⟩)))
     rw[if_neg hc]at hw;let⟨we,nj⟩:=cO (bT hw);let⟨pr,hq4⟩:=ao.mk.inj we;have Ks:G3=cN.add Cr.length:=(by have:v7=Tm++Cr:=(by rw[<- N1,e1,fA]at hq4;exact(oo hq4).symm);rw[<- Ks,this,aR,<- MG.add_add,<- e2]);subst nj pr Ks hq4;obtain⟨cC,xN⟩:∃ cC,nR++Cr=cC:=⟨_,rfl⟩;simp[xN,sW,U,jm,hP,cN.hn,wa,hre,On,rh,ld,hF,aK,hc];refine bM.mk (aw.auto (TL:=[(6,.int .i64 c)]) (HL:=jm cV cC (cN.add Cr.length)) (n:=7) (by simp[jm]) (by simp[jm]) (by simp[jm]) (by simp[jm]<;>(intro x W;first|omega|exact⟨.inl W,by omega⟩))) ?_;simp[jm];exact aJ.fC rfl rfl rfl (by simp)
end
end
def Gw (d f:Nat) (s:MS) (args:Z V):Y (V×MS):=match s.z with
 | some (a,b)=>(match args with
   | [av,bv]=>ob (bo.dec av:Y G) λx=>ob (bo.dec bv:Y G) λy=>ob (ao.lQ d f ⟨s.sl,s.tr⟩ [⟨x,y⟩]) λr=>some (.int .i64 r.2,⟨some (a,b+(r.1.b9.drop s.tr.length).length),r.1.bc,s.tr++r.1.b9.drop s.tr.length⟩)
   |_=>none)
 |none=>none
def Q7{args:Z V}(h:Gw d f s args=some q):∃ (a b:Nat) (x y:G) (r:ao×Int),s.z=some (a,b)/\args=[enc x,enc y]/\ao.lQ d f ⟨s.sl,s.tr⟩ [⟨x,y⟩]=some r /\
 q=(.int .i64 r.2,⟨some (a,b+(r.1.b9.drop s.tr.length).length),r.1.bc,s.tr++r.1.b9.drop s.tr.length⟩):=by
 unfold Gw at h;split at h;rename_i a b hz;split at h;simp only[aC]at h;let⟨x,W,y,hy,r,hr,h⟩:=h;cases h;exact⟨a,b,x,y,r,hz,by rw[bo.bB _ _ W,bo.bB _ _ hy],hr,rfl⟩;cases h;cases h
def Ug{b:Nat}{ex:Z Change}(h:ao.lQ d f ⟨sl,tr⟩ [⟨x,y⟩]=some (⟨cW,tr++ex⟩,e)):Gw d f ⟨some (a,b),sl,tr⟩ [enc x,enc y]=some (.int .i64 e,⟨some (a,b+ex.length),cW,tr++ex⟩):=by
 show ob (bo.dec (enc x):Y G) (λx=>ob (bo.dec (enc y):Y G) λy=>ob (ao.lQ d f ⟨sl,tr⟩ [⟨x,y⟩]) _)=_;rw[bo.dD,bo.dD];show ob (ao.lQ d f ⟨sl,tr⟩ [⟨x,y⟩]) _=_;rw[h];simp
def zo(s:MS)(args:Z V):Y (V×MS):=match args with
 | [.int .i64 h,.bool b]=>gd (et (Nat.ble (dB s.sl) 10000) (Nat.ble (dB s.tr) 8000)) (some (enc (fU s.sl.length),⟨some (match s.z with|none=>(0,0)|some (x,y)=>(x+1,y+1)),s.sl++[⟨false,wI,h,b⟩],s.tr++[⟨s.sl.length,⟨false,wI,0,false⟩,true⟩]⟩))
 |_=>none
def O6{args:Z V}(h:zo s args=some q):∃ (h:Int) (b:Bool),args=[.int .i64 h,.bool b]/\s.sl.length<=10000/\s.tr.length<=8000 /\
 q=(enc (fU s.sl.length),⟨some (match s.z with|none=>(0,0)|some (x,y)=>(x+1,y+1)),s.sl++[⟨false,wI,h,b⟩],s.tr++[⟨s.sl.length,⟨false,wI,0,false⟩,true⟩]⟩):=by
 unfold zo at h;split at h;rename_i h' b;simp only[bI,dz,gM,dH]at h;let⟨⟨M,O⟩,h⟩:=h;cases h;exact⟨h',b,rfl,M,O,rfl⟩;cases h
@[simp] def mr    :zo ⟨none,sl,tr⟩ [.int .i64 h,.bool b]=gd (et (Nat.ble (dB sl) 10000) (Nat.ble (dB tr) 8000)) (some (enc (fU sl.length),⟨some (0,0),sl++[⟨false,wI,h,b⟩],tr++[⟨sl.length,⟨false,wI,0,false⟩,true⟩]⟩)):=(rfl)
@[simp] def mq {x y:Nat}    :zo ⟨some (x,y),sl,tr⟩ [.int .i64 h,.bool b]=gd (et (Nat.ble (dB sl) 10000) (Nat.ble (dB tr) 8000)) (some (enc (fU sl.length),⟨some (x+1,y+1),sl++[⟨false,wI,h,b⟩],tr++[⟨sl.length,⟨false,wI,0,false⟩,true⟩]⟩)):=(rfl)
section
variable (hρ:J.Good I)
include hρ
def zmS(d f:Nat):Valid I Pg 236 (fu (DC 1 (Gw d f))):=by
 refine Valid.sym (fo Tryz.func236 qQ.2) λvs C D h=>?_;obtain⟨args,n,s,s',r,ds,b,c,q,hF,_,rfl,_,hr,hg,b4⟩:=GM h;obtain⟨ga,gb,x,y,R,hz,rfl,M,hq⟩:=Q7 hF;cases hq;let⟨z,sl,tr⟩:=s;simp only at hz;subst hz;let⟨m,hm⟩:=ao.JI d f M;have he:=hm.eq;have cR:∀ ρ',J.Good ρ'->bK ρ' (EL [(263,fu (GN (X8 d))),(264,sI (Ip 276))]):=λρ' fI=>aj (ae (zw9 fI d) (ae (zsl fI) aH));have O:ao.lQ d f ⟨sl,tr⟩ [⟨x,y⟩]=some (⟨R.1.bc,tr++R.1.b9.drop tr.length⟩,R.2):=by rw[M];exact congrArg some (uf he rfl)
 exact sy hρ Tryz.func236 qQ.2 rfl hg (λρ' fI=>⟨_,rfl,cR ρ' fI,SH fI rfl (cR ρ' fI) (g:=⟨ga,gb,n.n,n.h⟩) rfl rfl O⟩) b4
section
variable (U:E.P=Pg)(aq:bK I E)
include U aq
theorem ZG(hV:E.dA 162=dC (cz λi:Int=>some (fU i))){n:Nat}(hn:n<=1000) :
 Wp I E 1 38 BG.1 (((PT.leaf.set 0 (.ptr 0 0 1)).set 1 (.int .i64 h)).set 2 (.bool b)) { H:=dP [(0,mN n)],n:=1,log:=[] } (J.Leaves E.P Tryz.f76 (aJ 1 (enc (fU 0)) [(0,mB 1 2 [⟨false,wI,h,b⟩] [⟨0,⟨false,wI,0,false⟩,true⟩] ⟨0,0,n,hn⟩),(1,mS [⟨false,wI,h,b⟩] ⟨0,0,n,hn⟩),(2,mT [⟨0,⟨false,wI,0,false⟩,true⟩] ⟨0,0,n,hn⟩)])):=by
 simp[U,hV,hn];refine aJ.My (λk=>if k=1 then 17 else if k=2 then 29 else k) rfl rfl (by simp) ?_;simp[fU,wI]
theorem ZH(hV:E.dA 162=dC (cz λi:Int=>some (fU i)))(hl:sl.length<=10000)(ht:tr.length<=8000) :
 Wp I E 3 38 BG.1 (((PT.leaf.set 0 (.ptr 0 0 1)).set 1 (.int .i64 h)).set 2 (.bool b)) { H:=dP (jm sl tr g),n:=3,log:=[] } (J.Leaves E.P Tryz.f76 (aJ 3 (enc (fU sl.length)) (jm (sl++[⟨false,wI,h,b⟩]) (tr++[⟨sl.length,⟨false,wI,0,false⟩,true⟩]) ⟨g.a+1,g.b+1,g.n,g.hn⟩))):=by
 let⟨ga,gb,gn,cX⟩:=g;have k1:(tr.length+1)*104<=1048576:=by omega
 have k2:(sl.length+1)*88<=1048576:=by omega
 simp[U,hV,cX,jm,k1,k2,bf];refine aJ.My (λk=>k) rfl rfl (by simp) ?_;simp[fU,wI]
end
def zvF:Valid I Pg 76 (fu (DC 1 zo)):=by
 refine Valid.sym (fo Tryz.func76 BG.2) λvs C D h=>?_;obtain⟨args,n,s,s',r,ds,b,c,q,hF,hz,rfl,_,hr,hg,b4⟩:=GM h;obtain⟨ho,bb,rfl,M,O,hq⟩:=O6 hF;cases hq;let⟨z,sl,tr⟩:=s;have cR:∀ ρ',J.Good ρ'->bK ρ' (EL [(162,dC (cz λi:Int=>some (fU i)))]):=λρ' fI=>aj (ae (zvC fI) aH)
 cases z with
 | none =>obtain⟨rfl,rfl⟩:=hz rfl;exact sy hρ Tryz.func76 BG.2 rfl hg (λρ' fI=>⟨_,rfl,cR ρ' fI,ZG fI rfl (cR ρ' fI) rfl n.h⟩) b4
 | some z =>
   let⟨x,y⟩:=z;exact sy hρ Tryz.func76 BG.2 rfl hg (λρ' fI=>⟨_,rfl,cR ρ' fI,ZH fI rfl (cR ρ' fI) (g:=⟨x,y,n.n,n.h⟩) rfl M O⟩) b4
end
def Fu(s:MS)(args:Z V):Y (V×MS):=match args with
 | []=>zo s [.int .i64 1000000,.bool false]
 |_=>none
@[simp] def zGu :Fu s []=zo s [.int .i64 1000000,.bool false]:=(rfl)
def kQ(d f:Nat)(s:MS)(args:Z V):Y (V×MS):=ob (Gw d f s args) λq=>(match q.1 with
 |.int .i64 e=>some (.bool (decide (e=0)),q.2)
 |_=>none)
def zlv{b:Nat}{ex:Z Change}(h:ao.lQ d f ⟨sl,tr⟩ [⟨x,y⟩]=some (⟨cW,tr++ex⟩,e)):kQ d f ⟨some (a,b),sl,tr⟩ [enc x,enc y]=some (.bool (decide (e=0)),⟨some (a,b+ex.length),cW,tr++ex⟩):=by
 unfold kQ;rw[Ug h];rfl
def M0{args:Z V}(h:kQ d f s args=some q):∃ (a b:Nat) (x y:G) (cW:Z Slot) (ex:Z Change) (e:Int),s.z=some (a,b)/\args=[enc x,enc y]/\ao.lQ d f ⟨s.sl,s.tr⟩ [⟨x,y⟩]=some (⟨cW,s.tr++ex⟩,e) /\
 q=(.bool (decide (e=0)),⟨some (a,b+ex.length),cW,s.tr++ex⟩):=by
 unfold kQ at h;simp only[aC]at h;let⟨p,hp,h⟩:=h;obtain⟨a,b,x,y,r,hz,rfl,M,rfl⟩:=Q7 hp;cases h;let⟨m,hm⟩:=ao.JI d f M;refine⟨a,b,x,y,_,_,r.2,hz,rfl,?_,rfl⟩;rw[M];exact congrArg some (uf hm.eq rfl)
def Bw(d f:Nat)(s:MS)(args:Z V):Y (V×MS):=match args with
 | [tv]=>ob (bo.dec tv:Y G) λt=>ob (zo s [.int .i64 1000000,.bool true]) λq=>kQ d f q.2 [tv,q.1]
 |_=>none
section
variable (hρ:J.Good I)
include hρ
section
variable (U:E.P=Pg)(aq:bK I E)
include U aq
theorem QL(hA:E.dA 76=fu (DC 1 zo)){n:MN} :
 Wp I E 1 7 lG.1 (PT.leaf.set 0 (.ptr 0 0 0)) { H:=dP (uC n ⟨none,[],[]⟩),n:=1,log:=[] } (J.Leaves E.P Tryz.f200 (aJ 1 (enc (fU 0)) (uC n ⟨some (0,0),[⟨false,wI,1000000,false⟩],[⟨0,⟨false,wI,0,false⟩,true⟩]⟩))):=by
 let⟨n,hn⟩:=n;simp[U,hA,hn,aK];refine aJ.My (λk=>if k=1 then 7 else if k=2 then 8 else k) rfl rfl (by simp) ?_;simp[fU,wI]
theorem QM(hA:E.dA 76=fu (DC 1 zo)){n:MN}{b:Nat}(hl:sl.length<=10000)(ht:tr.length<=8000) :
 Wp I E 3 7 lG.1 (PT.leaf.set 0 (.ptr 0 0 0)) { H:=dP (uC n ⟨some (a,b),sl,tr⟩),n:=3,log:=[] } (J.Leaves E.P Tryz.f200 (aJ 3 (enc (fU sl.length)) (uC n ⟨some (a+1,b+1),sl++[⟨false,wI,1000000,false⟩],tr++[⟨sl.length,⟨false,wI,0,false⟩,true⟩]⟩))):=by
 let⟨n,hn⟩:=n;simp[U,hA,hn,hl,ht,aK];refine aJ.My (λk=>k) rfl rfl (by simp) ?_;simp[fU,wI]
theorem Tv(hW:E.dA 236=fu (DC 1 (Gw d f))){n:MN}{b:Nat}{ex:Z Change}(h:ao.lQ d f ⟨sl,tr⟩ [⟨x,y⟩]=some (⟨cW,tr++ex⟩,e)) :
 Wp I E 3 14 rO.1 (((PT.leaf.set 0 (.ptr 0 0 0)).set 1 (enc x)).set 2 (enc y)) { H:=dP (uC n ⟨some (a,b),sl,tr⟩),n:=3,log:=[] } (J.Leaves E.P Tryz.f167 (aJ 3 (.bool (decide (e=0))) (uC n ⟨some (a,b+ex.length),cW,tr++ex⟩))):=by
 let⟨n,hn⟩:=n;have hF:=Ug (a:=a) (b:=b) h;cases x;cases y;simp at hF;obtain⟨cC,xN⟩:∃ cC,tr++ex=cC:=⟨_,rfl⟩;rw[xN]at hF ⊢;simp[U,hW,hn,hF,aK];exact aJ.fC rfl rfl rfl (by simp)
end
def Ui:Valid I Pg 200 (fu (DC 0 Fu)):=by
 refine Valid.sym (fo Tryz.func200 lG.2) λvs C D h=>?_;obtain⟨args,n,s,s',r,ds,b,c,q,hF,hz,rfl,_,hr,hg,b4⟩:=GM h;unfold Fu at hF;split at hF;let⟨ho,bb,e,M,O,hq⟩:=O6 hF;cases e;cases hq;let⟨z,sl,tr⟩:=s;have cR:∀ ρ',J.Good ρ'->bK ρ' (EL [(76,fu (DC 1 zo))]):=λρ' fI=>aj (ae (zvF fI) aH)
 cases z with
 | none =>obtain⟨rfl,rfl⟩:=hz rfl;exact sy hρ Tryz.func200 lG.2 rfl hg (λρ' fI=>⟨_,rfl,cR ρ' fI,QL fI rfl (cR ρ' fI) rfl⟩) b4
 | some z =>cases z;exact sy hρ Tryz.func200 lG.2 rfl hg (λρ' fI=>⟨_,rfl,cR ρ' fI,QM fI rfl (cR ρ' fI) rfl M O⟩) b4
 cases hF
def Nq(d f:Nat):Valid I Pg 167 (fu (DC 0 (kQ d f))):=by
 refine Valid.sym (fo Tryz.func167 rO.2) λvs C D h=>?_;obtain⟨args,n,s,s',r,ds,b,c,q,hF,hz,rfl,_,hr,hg,b4⟩:=GM h;obtain⟨ga,gb,x,y,cW,ex,e,CC,rfl,M,hq⟩:=M0 hF;cases hq;cases s;simp only at CC;subst CC;have cR:∀ ρ',J.Good ρ'->bK ρ' (EL [(236,fu (DC 1 (Gw d f)))]):=λρ' fI=>aj (ae (zmS fI d f) aH);exact sy hρ Tryz.func167 rO.2 rfl hg (λρ' fI=>⟨_,rfl,cR ρ' fI,Tv fI rfl (cR ρ' fI) rfl M⟩) b4
end
def zmg{args:Z V}(h:zo s args=some q):∃ (a b:Nat) (i:Int),q.1=enc (fU i)/\q.2.z=some (a,b):=by
 obtain⟨_,_,_,_,_,rfl⟩:=O6 h;exact⟨_,_,_,rfl,rfl⟩
def RU{args:Z V}(h:kQ d f s args=some q):∃ (a b:Nat) (r:Bool),q.1=.bool r/\q.2.z=some (a,b):=by
 obtain⟨_,_,_,_,_,_,_,_,_,_,rfl⟩:=M0 h;exact⟨_,_,_,rfl,rfl⟩
def Y8{args:Z V}(h:Bw d f s args=some q):∃ (x v:G) (a b a2 b2:Nat) (dv cV:Z Slot) (nR cC:Z Change) (r:Bool),args=[enc x]/\zo s [.int .i64 1000000,.bool true]=some (enc v,⟨some (a,b),dv,nR⟩) /\
 kQ d f ⟨some (a,b),dv,nR⟩ [enc x,enc v]=some (.bool r,⟨some (a2,b2),cV,cC⟩)/\q=(.bool r,⟨some (a2,b2),cV,cC⟩):=by
 unfold Bw at h;split at h;simp only[aC]at h;let⟨x,W,p,hp,h⟩:=h;let⟨a,b,i,e1,e2⟩:=zmg hp;let⟨a2,b2,r,e3,e4⟩:=RU h;let⟨pv,z,dv,nR⟩:=p;let⟨qv,z2,cV,cC⟩:=q;simp only at e1 e2 e3 e4 h;subst e1 e2 e3 e4;have e5:=bo.bB _ _ W;subst e5;exact⟨x,_,a,b,a2,b2,dv,cV,nR,cC,r,rfl,hp,h,rfl⟩;cases h
section
variable (hρ:J.Good I)
include hρ
section
variable (U:E.P=Pg)(aq:bK I E)
include U aq
theorem Tx(hA:E.dA 76=fu (DC 1 zo))(hQ:E.dA 167=fu (DC 0 (kQ d f))){n:MN}{a0 b0 b:Nat}{dj:Z Slot}{fc:Z Change}{v:G}(M:zo ⟨none,[],[]⟩ [.int .i64 1000000,.bool true]=some (enc v,⟨some (a,b),dv,nR⟩))(O:kQ d f ⟨some (a,b),dv,nR⟩ [enc x,enc v]=some (.bool r,⟨some (a2,b2),cV,cC⟩)) :
 Wp I E 1 12 lX.1 ((PT.leaf.set 0 (.ptr 0 0 0)).set 1 (enc x)) { H:=dP (uC n ⟨none,[],[]⟩),n:=1,log:=[] } (J.Leaves E.P Tryz.f166 (aJ 1 (.bool r) (uC n ⟨some (a2,b2),cV,cC⟩))):=by
 let⟨n,hn⟩:=n;cases x;cases v;simp[-mr,-mq]at M O;simp[-mr,-mq,U,hA,hQ,hn,M,O,aK];refine aJ.My (λk=>if k=1 then 11 else if k=2 then 12 else k) rfl rfl (by simp) ?_;simp
theorem Tz(hA:E.dA 76=fu (DC 1 zo))(hQ:E.dA 167=fu (DC 0 (kQ d f))){n:MN}{b:Nat}{v:G}(M:zo ⟨some (a0,b0),dj,fc⟩ [.int .i64 1000000,.bool true]=some (enc v,⟨some (a,b),dv,nR⟩))(O:kQ d f ⟨some (a,b),dv,nR⟩ [enc x,enc v]=some (.bool r,⟨some (a2,b2),cV,cC⟩)) :
 Wp I E 3 12 lX.1 ((PT.leaf.set 0 (.ptr 0 0 0)).set 1 (enc x)) { H:=dP (uC n ⟨some (a0,b0),dj,fc⟩),n:=3,log:=[] } (J.Leaves E.P Tryz.f166 (aJ 3 (.bool r) (uC n ⟨some (a2,b2),cV,cC⟩))):=by
 let⟨n,hn⟩:=n;cases x;cases v;simp[-mr,-mq]at M O;simp[-mr,-mq,U,hA,hQ,hn,M,O,aK];exact aJ.fC rfl rfl rfl (by simp)
end
def zhr(d f:Nat):Valid I Pg 166 (fu (DC 0 (Bw d f))):=by
 refine Valid.sym (fo Tryz.func166 lX.2) λvs C D h=>?_;obtain⟨args,n,s,s',r,ds,b,c,q,hF,hz,rfl,_,hr,hg,b4⟩:=GM h;obtain⟨x,v,a1,b1,a2,b2,dv,cV,nR,cC,r,rfl,M,O,hq⟩:=Y8 hF;cases hq;let⟨z,sl,tr⟩:=s;have cR:∀ ρ',J.Good ρ'->bK ρ' (EL [(76,fu (DC 1 zo)),(167,fu (DC 0 (kQ d f)))]):=λρ' fI=>aj (ae (zvF fI) (ae (Nq fI d f) aH))
 cases z with
 | none =>obtain⟨rfl,rfl⟩:=hz rfl;exact sy hρ Tryz.func166 lX.2 rfl hg (λρ' fI=>⟨_,rfl,cR ρ' fI,Tx (a0:=0) (b0:=0) (dj:=[]) (fc:=[]) fI rfl (cR ρ' fI) rfl rfl M O⟩) b4
 | some z =>
   cases z;exact sy hρ Tryz.func166 lX.2 rfl hg (λρ' fI=>⟨_,rfl,cR ρ' fI,Tz fI rfl (cR ρ' fI) rfl rfl M O⟩) b4
end
def OT:J.Spec:=dC (cz λl:Z G=>if l≠[]/\l.length<=1000 then some l else none)
def DZ:J.Spec:=dC (cB λ(n:Z Nat) (l:Z G)=>if l≠[]/\l.length<=1000 then some (G.mk 4 n 0 0 l)else none)
section
variable (hρ:J.Good I)
include hρ
section
variable (U:E.P=Pg)(aq:bK I E)
include U aq
def zdJ(hl:l.length<=1000)(C:HS):aS I Pg 82 [enc (t::l)] C (enc (t::l)) C:=by
 refine fn hρ U aq Tryz.func82 iq.2 rfl (by simp) ?_ C;have Qr:∀ e es tg,TB Pg .eql 33 (.sl (e::es) tg) .a8=some (.bool false):=λ_ _ _=>by rfl
 have qS:(l.length+1)*64<=1048576:=by omega
 simp[U,Qr,qS]
def zuI(hC:E.dA 82=OT)(hl:l.length+1<=1000)(C:HS):aS I Pg 88 [enc n,enc (t::l)] C (enc (G.mk 4 n 0 0 (t::l))) C:=by
 refine fn hρ U aq Tryz.func88 BF.2 rfl (by simp) ?_ C;have eC:∀ m:Z G,m=t::l->(m≠[]/\m.length<=1000):=by rintro _ rfl;exact⟨by simp,by simpa using hl⟩
 simp[U,hC,OT,hl]
def zl6(hC:E.dA 88=DZ){a b:G}(C:HS):aS I Pg 90 [enc a,enc b] C (enc (G.mk 4 [45,62] 0 0 [a,b])) C:=by
 refine fn hρ U aq Tryz.func90 LU.2 rfl (by simp) ?_ C;cases a;cases b;simp[U,hC,DZ]
end
def zm9:Valid I Pg 82 OT:=v1 (fo Tryz.func82 iq.2) λa r h C=>by
 obtain⟨⟨M,O⟩,rfl⟩:=bF h
 cases a with
 |nil=>exact absurd rfl M
 |cons t l=>exact zdJ hρ (E:=EL []) rfl (aj aH) (by simp only[aL]at O;omega) C
def zvD:Valid I Pg 88 DZ:=v2 (fo Tryz.func88 BF.2) λa b r h C=>by
 obtain⟨⟨M,O⟩,rfl⟩:=bF h
 cases b with
 |nil=>exact absurd rfl M
 |cons t l=>exact zuI hρ (E:=EL [(82,OT)]) rfl (aj (ae (zm9 hρ) aH)) rfl (by simpa using O) C
def zhk:Valid I Pg 90 (dC (cB λa b:G=>some (G.mk 4 [45,62] 0 0 [a,b]))):=v2 (fo Tryz.func90 LU.2) λa b r h C=>by
 cases h;exact zl6 hρ (E:=EL [(88,DZ)]) rfl (aj (ae (zvD hρ) aH)) rfl C
end
def YX(es:Z (Z V))(vs:Z V):Y (Z (Z V)×V):=match es,vs with
 | [],[.str n]=>some ([],.agg [.int .i64 4,.str n,.int .i64 0,.int .i64 0,.sl [] false])
 |_,_=>none
@[simp] def zJM :YX [] [.str n]=some ([],.agg [.int .i64 4,.str n,.int .i64 0,.int .i64 0,.sl [] false]):=(rfl)
def OU(es:Z (Z V))(vs:Z V):Y (Z (Z V)×V):=match es,vs with
 | [],[]=>some ([],.sl [] false)
 |_,_=>none
@[simp] def zCq:OU [] []=some ([],.sl [] false):=(rfl)
def LJ:J.Spec:=λvs C=>match vs with
 | [.str n,.own id g o m c]=>(match m with
   | 0=>DO 1 5 YX [.str n,.own id g o 0 c] C
   |m+1=>DZ [.str n,.own id g o (m+1) c] C)
 | [.str n,.sl es t]=>DZ [.str n,.sl es t] C
 |_=>none
section
variable {id g o m:Nat}{c:Y Nat}{es:Z (Z V)}{t:Bool}
@[simp] def zCp:LJ [.str n,.own id g o 0 c] C=DO 1 5 YX [.str n,.own id g o 0 c] C:=(rfl)
@[simp] def zCo:LJ [.str n,.own id g o (m+1) c] C=DZ [.str n,.own id g o (m+1) c] C:=(rfl)
theorem Valid.zMS(hA:Valid I P f (DO 1 5 YX))(hB:Valid I P f DZ):Valid I P f LJ where
 fn:=hA.fn
 ok:=by intro vs C v a9 hq;unfold LJ at hq;split at hq;split at hq;exact hA.ok hq;exact hB.ok hq;exact hB.ok hq;cases hq
 kept:=by
  intro vs C q hq;unfold LJ at hq;split at hq;split at hq;exact hA.kept hq;exact hB.kept hq;exact hB.kept hq;cases hq
end
section
variable (hρ:J.Good I)
include hρ
section
variable (U:E.P=Pg)(aq:bK I E)
include U aq
theorem zp8:Wp I E 1 8 iq.1 (PT.leaf.set 0 (.own 0 0 0 0 (some 0))) { H:=dP [(0,Lm 5 [])],n:=1,log:=[] } (J.Leaves E.P Tryz.f82 (aJ 1 (.sl [] false) [(0,Lm 5 [])])):=by
 have Qr:TB Pg .eql 33 (.own 0 0 0 0 (some 0)) .a8=some (.bool false):=by rfl
 simp[U,Qr,Lm];exact aJ.bw
theorem zzG(hC:E.dA 82=DO 0 5 OU):Wp I E 1 9 BF.1 ((PT.leaf.set 0 (.str n)).set 1 (.own 0 0 0 0 (some 0))) { H:=dP [(0,Lm 5 [])],n:=1,log:=[] } (J.Leaves E.P Tryz.f88 (aJ 1 (.agg [.int .i64 4,.str n,.int .i64 0,.int .i64 0,.sl [] false]) [(0,Lm 5 [])])):=by
 simp[U,hC,Lm];exact aJ.bw
end
def zhq:Valid I Pg 82 (DO 0 5 OU):=by
 refine Valid.mt (fo Tryz.func82 iq.2) λes pre post r M O h3 h4 h5 h6 h7 C id hid hg=>?_;obtain rfl:=List.length_eq_zero_iff.1 M;unfold OU at h4;split at h4;rename_i e;cases h4;simp only[gL]at e;subst e;exact mt (pre:=[]) (post:=[]) hρ (E:=EL []) rfl (aj aH) Tryz.func82 iq.2 rfl rfl rfl rfl rfl rfl (zp8 hρ rfl (aj aH)) hid hg;cases h4
def zDL:Valid I Pg 88 (DO 1 5 YX):=by
 refine Valid.mt (fo Tryz.func88 BF.2) λes pre post r M O h3 h4 h5 h6 h7 C id hid hg=>?_;unfold YX at h4;split at h4;rename_i n e;cases h4;obtain⟨a,rfl⟩:=oU.1 M;rw[dx,gL]at e;obtain⟨rfl,rfl⟩:=List.cons_eq_cons.1 e;exact mt (pre:=[.str n]) (post:=[]) hρ (E:=EL [(82,DO 0 5 OU)]) rfl (aj (ae (zhq hρ) aH)) Tryz.func88 BF.2 rfl rfl rfl rfl rfl rfl (zzG hρ rfl (aj (ae (zhq hρ) aH)) rfl) hid hg;cases h4
def zmX:Valid I Pg 88 LJ:=Valid.zMS (zDL hρ) (zvD hρ)
end
abbrev arr(a b:G):G:=G.mk 4 [45,62] 0 0 [a,b]
def Nf:J.Spec:=dC (cB λa b:G=>some (arr a b))
section
variable (hρ:J.Good I)
include hρ
section
variable (U:E.P=Pg)(aq:bK I E)
include U aq
theorem K7(hF:E.dA 200=fu (DC 0 Fu))(hQ:E.dA 167=fu (DC 0 (kQ d f)))(hW:E.dA 199=AG Ld (zp (Hn IZ)))(hR:E.dA 90=Nf)
 {n:MN} {a1 b1 a3 b3:Nat} {Ic:Z Slot} {Gz:Z Change} {w v u:G}  (hl:dj.length<=1000000) (hw:ao.w ⟨dj,fc⟩ x=w) (hk:w.kind=1)
 (M:zo ⟨some (a0,b0),dj,fc⟩ [.int .i64 1000000,.bool false]=some (enc v,⟨some (a1,b1),dv,nR⟩)) (O:zo ⟨some (a1,b1),dv,nR⟩ [.int .i64 1000000,.bool false]=some (enc u,⟨some (a2,b2),cV,cC⟩)) (h3:kQ d f ⟨some (a2,b2),cV,cC⟩ [enc w,enc (arr v u)]=some (.bool r,⟨some (a3,b3),Ic,Gz⟩)) :
 Wp I E 3 35 ib.1 ((PT.leaf.set 0 (.ptr 0 0 0)).set 1 (enc x)) { H:=dP (uC n ⟨some (a0,b0),dj,fc⟩),n:=3,log:=[] } (J.Leaves E.P Tryz.f125 (aJ 3 (.tuple [enc v,enc u,.bool r]) (uC n ⟨some (a3,b3),Ic,Gz⟩))):=by
 let⟨n,hn⟩:=n;cases x;cases w;cases v;cases u;simp only[G.fH]at hk;subst hk;simp[-mr,-mq]at M O h3;simp[-mr,-mq,U,hF,hQ,hW,hR,Nf,hn,hl,hw,M,O,h3,aK];exact aJ.fC rfl rfl rfl (by simp)
theorem K9(hW:E.dA 199=AG Ld (zp (Hn IZ)))(hI:E.dA 40=dC (cz λt:G=>some (isArrow t)))
 {n:MN}    {w:G} (hl:dj.length<=1000000) (hw:ao.w ⟨dj,fc⟩ x=w) (hk:w.kind≠1) :
 Wp I E 3 35 ib.1 ((PT.leaf.set 0 (.ptr 0 0 0)).set 1 (enc x)) { H:=dP (uC n ⟨some (a0,b0),dj,fc⟩),n:=3,log:=[] } (J.Leaves E.P Tryz.f125 (aJ 3 (.tuple [enc (isArrow w).a,enc (isArrow w).b,.bool (isArrow w).c]) (uC n ⟨some (a0,b0),dj,fc⟩))):=by
 let⟨n,hn⟩:=n;obtain⟨ar,j7⟩:∃ ar,isArrow w=ar:=⟨_,rfl⟩;rw[j7];let⟨aa,ab,ac⟩:=ar;cases x;cases w;cases aa;cases ab;simp only[G.fH]at hk;simp[U,hW,hI,hn,hl,hw,hk,j7,aK];exact aJ.fC rfl rfl rfl (by simp)
theorem K8(hW:E.dA 199=AG Ld (zp (Hn IZ)))(hI:E.dA 40=dC (cz λt:G=>some (isArrow t)))
 {n:MN} {w:G} (hw:ao.w ⟨[],[]⟩ x=w) (hk:w.kind≠1) :
 Wp I E 1 35 ib.1 ((PT.leaf.set 0 (.ptr 0 0 0)).set 1 (enc x)) { H:=dP (uC n ⟨none,[],[]⟩),n:=1,log:=[] } (J.Leaves E.P Tryz.f125 (aJ 1 (.tuple [enc (isArrow w).a,enc (isArrow w).b,.bool (isArrow w).c]) (uC n ⟨none,[],[]⟩))):=by
 let⟨n,hn⟩:=n;obtain⟨ar,j7⟩:∃ ar,isArrow w=ar:=⟨_,rfl⟩;rw[j7];let⟨aa,ab,ac⟩:=ar;cases x;cases w;cases aa;cases ab;simp only[G.fH]at hk;simp[U,hW,Ld,hI,hn,hw,hk,j7,aK];exact aJ.fC rfl rfl rfl (by simp)
end
end
def zHa(i:Int):G:=.mk 2 [] i 0 []
def rG(k:Nat):Z G:=(List.range k).map λj=>zHa ((j:Nat):Int)
def zd0:(rG k).length=k:=by simp[rG]
def zd1(h:j<(rG k).length):(rG k)[j]=zHa (j:Int):=by simp[rG]
def Ay(d:Decl)(fs:Z G):G:=fs.foldr (λf t=>arr (G.ia d.params f) t) (G.mk 4 d.name 0 0 (rG d.params.length))
def JS (D:Z Decl) (n:Z Nat):Y (Decl×Ctor):=match zQ D n 0 with
 |none=>none
 | some (i,k)=>match D[i]? with
   |none=>none
   | some d=>match d.ctors[k]? with
     |none=>none
     |some c=>some (d,c)
def Im(D:Z Decl)(n:Z Nat):Scheme×Bool:=match JS D n with
 |none=>(PZ,false)
 |some (d,c)=>(⟨(d.params.length:Int),Ay d c.fields⟩,true)
def Wh:∀ {cs:Z Ctor} {n:Z Nat} {k0 k:Nat},LH cs n k0=some k->∃ j,k=k0+j/\∃ hj:j<cs.length,cs[j].name=n
 | [],_,_,_,h=>by cases h
 | c :: l,n,k0,k,h=>by
   rw[LH]at h;split at h;rename_i e;cases h;exact⟨0,rfl,by simp,by simpa using e⟩;obtain⟨j,rfl,hj,hn⟩:=Wh h;exact⟨j+1,by omega,by simpa using hj,by simpa using hn⟩
def VP:∀ {D:Z Decl} {n:Z Nat} {i0 i k:Nat},zQ D n i0=some (i,k)->∃ j,i=i0+j/\∃ hj:j<D.length,∃ hk:k<D[j].ctors.length,D[j].ctors[k].name=n
 | [],_,_,_,_,h=>by cases h
 | d :: l,n,i0,i,k,h=>by
   rw[zQ]at h;split at h;rename_i k' e;cases h;let⟨j,hj0,hj,hn⟩:=Wh e;rw[fV]at hj0;subst hj0;exact⟨0,rfl,by simp,hj,hn⟩;obtain⟨j,rfl,hj,hk,hn⟩:=VP h;exact⟨j+1,by omega,by simpa using hj,by simpa using hk,by simpa using hn⟩
theorem Sb(h:zQ D n 0=some (i,k)):∃ (hi:i<D.length) (hk:k<D[i].ctors.length),JS D n=some (D[i],D[i].ctors[k])/\D[i].ctors[k].name=n:=by
 let⟨j,hj0,hj,hk,hn⟩:=VP h;rw[fV]at hj0;subst hj0;refine⟨hj,hk,?_,hn⟩;unfold JS;grind
def Sc(h:zQ D n 0=none):JS D n=none:=by
 unfold JS;rw[h]
def vS(l:Z G)(p j:Nat):Z (Z V):=(l.take j++List.replicate (p-j) wI).map aA
def zf7:vS l p 0=List.replicate p (aA wI):=by simp[vS]
def zga(h:l.length=p):vS l p p=l.map aA:=by simp[vS,<- h]
def zlq(h:l.length=p)(hj:j<=p):(vS l p j).length=p:=by
 simp only[vS,aN,aR,dR,List.length_replicate];omega
def zf9:(vS l p j).map fF=vS l p j:=by
 unfold vS;rw[gI];exact ic λa _=>iI.norm a
@[simp] def zf8  :((vS l p j).all λe=>e.all V.bN)=true:=nG _
def zdp:∀ x∈vS l p j,∀ v∈x,v.bN=true:=λx W v hv=>au.1 (au.1 (zf8 (l:=l) (p:=p) (j:=j)) x W) v hv
def zlp:(vS l p j).map (λe=>e.map (V.jr π))=vS l p j:=AY λx W v hv=>V.jF (zdp x W v hv)
theorem zlr(h:l.length=p)(hj:j<p)(h':j<(vS l p j).length):(vS l p j)[j]=aA wI:=by
 simp only[vS,iD];grind
theorem zlo(h:l.length=p)(hj:j<p){e:Z V}(he:fF e=aA (l[j]'(by omega))):((vS l p j).set j e).map fF=vS l p (j+1):=by
 rw[jX,zf9,he];unfold vS;rw[<- jX];congr 1;have M:(l.take j).length=j:=by rw[dR];omega
 rw[je _ _ (by omega),M,iW,df (by omega),fA];congr 1;obtain⟨m,hm⟩:∃ m,p-j=m+1:=⟨p-j-1,by omega⟩;grind
def Gu(D:Z Decl):Prop:=D.length<=1000/\∀ d∈D,d.params.length<=1000/\d.ctors.length<=1000/\∀ c∈d.ctors,c.fields.length<=1000/\∀ f∈c.fields,f.ok=true/\f.size<=100000
def zDe(d:Decl)(fs:Z G)(H:PT J.Obj):Prop:=H.get 0=some (.arr 6 0 [[.int .i64 0,.int .i64 0,.str [],.int .i64 0,.int .i64 0,.a8]] true false false)/\H.get 1=some (.arr 4 0 [aT d] true false false)/\H.get 2=some (.arr 5 0 [aA (Ay d fs)] true false false)
def zQX(d:Decl)(fs:Z G)(e:Z V)(T:PT V)(H:PT J.Obj)(N:Nat):Prop:=zDe d fs H/\T.get 4=some (.ptr 0 0 0)/\T.get 9=some (.ptr 1 0 0)/\T.get 12=some (.ptr 2 0 0)/\∃ id,T.get 14=some (.ptr id 0 0)/\4<id/\id<N/\H.get id=some (.arr 5 0 [e] true false false)
def Ua{d:Decl}(hi:2<i)(h:zDe d fs H):zDe d fs (H.set i o):=by
 let⟨M,O,h3⟩:=h;exact⟨by rw[PT.cZ,if_neg (by omega)];exact M,by rw[PT.cZ,if_neg (by omega)];exact O,by rw[PT.cZ,if_neg (by omega)];exact h3⟩
section
variable (hρ:J.Good I)
include hρ
section
variable (U:E.P=Pg)(aq:bK I E)
include U aq
def zgL{es:Z (Z V)}(b4:(Bz 170 es tg).Fits vs C) :
 aS I Pg 89 vs C ((Bz 170 es tg).val C) ((Bz 170 es tg).heap C):=by
 refine em hρ U aq Tryz.func89 nZ.2 rfl Nc ?_ b4;show Wp I E 0 _ _ _ { H:=dP [],n:=0,log:=[] } (J.Leaves E.P _ (aJ 0 (.func 170 [.ptr 0 0 0]) [(0,jw (.sl es tg))]));simp[U];exact aJ.bw
theorem zgm(hB:E.dA 91=OZ)(hA:E.dA 90=Nf){d:Decl}(hfl:fs.length<=1000)(HN:∀ f∈fs,f.ok=true/\f.size<=100000)(oX:d.params.length<=1000)
 {sz:Nat} (cd:sz=68)   
 (hT:aw 0 T C (dP [(4,.ptr 0 0 0),(9,.ptr 1 0 0),(12,.ptr 2 0 0),(54,.func 170 [.ptr 3 0 0])]) { H:=dP [(0,.arr 6 0 [[.int .i64 0,.int .i64 0,.str [],.int .i64 0,.int .i64 0,.a8]] true false false),(1,.arr 4 0 [aT d] true false false),(2,.arr 5 0 [aA (Ay d [])] true false false),(3,jw (.sl (fs.map aA) false))],n:=4,log:=[] })
 (hQ:Q .normal (dP [(4,.ptr 0 0 0),(9,.ptr 1 0 0),(12,.ptr 2 0 0)]) { H:=dP [(0,.arr 6 0 [[.int .i64 0,.int .i64 0,.str [],.int .i64 0,.int .i64 0,.a8]] true false false),(1,.arr 4 0 [aT d] true false false),(2,.arr 5 0 [aA (Ay d fs)] true false false)],n:=4,log:=[] }) :
 Ls I E 0 sz (.range (.tmp 54) #[55,56] vV vU) T C Q:=by
 subst cd;refine oJ (TZ hT ?_);refine zei hρ aq (by rw[U];exact follows) (by rw[U];exact named) ?_
 refine zbp (f:=170) (fn:=Tryz.f170) (tS:=33) (tE:=35) (tI:=3) (tB:=4) (IS:=zAs) (IE:=uc) (val:=λe=>.agg e) (bx:=3) (by rw[U];exact Tryz.func170) vK.2 (by kernel_rfl) (by kernel_rfl) (by rw[U];simp) (by simp) (by rw[U];simp) (es:=fs.map aA) (tg:=false) (by rw[zKC.2.1];exact zD1 _) ?_ ?_ (by simp) (by simp) (by omega) ?_ ?_
  (λj H=>zDe d (fs.drop j) H) (λj e T H N=>zQX d (fs.drop (j+1)) e T H N) (λj H o h=>Ua (by omega) h) ?_ ?_ (JJ:=λ_ _=>False) (λ_ _ _ _ h=>h) (λ_ _ _ _ h=>h) ?_ ?_ ?_ (λ_ _ _ _ _ h=>h.elim)
 simp_all;simp;omega;intro i hi;obtain⟨j,rfl⟩:∃ j,i=j+4:=⟨i-4,by omega⟩;simp;intro v1 v2;exact⟨_,rfl⟩;rintro j e T H N o ⟨g1,g4,g9,g12,id,g14,i1,i2,gid⟩;exact⟨Ua (by omega) g1,g4,g9,g12,id,g14,i1,i2,by rw[PT.cZ,if_neg (by omega)];exact gid⟩;rw[aN,bz];exact⟨by simp,by simp,by simp⟩;intro i e he H N log T1 hN hv hI hz;cases hz;have hs:∀ j,H.get (N+j)=none:=λj=>hv _ (by omega);have ka:=hv N (af _);have h4:¬ 4=N:=by omega
 have h3:¬ 3=N:=by omega
 obtain⟨c,rfl⟩:∃ c,e=aA c:=by grind
 refine Zh (I:=I) (k:=0) rfl ?_;simp[vV,U,hs,ka,h4,h3];refine⟨λj hj=>?_,Ua (by omega) (Ua (by omega) hI),by simp,by simp,by simp,N,by simp,by omega,by omega,by simp[kZ]⟩;grind;rintro i e he H N log T2 hN hv ⟨⟨hI0,hI1,hI2⟩,g4,g9,g12,id,g14,i1,i2,gid⟩;obtain⟨cF,rfl⟩:∃ h:i<fs.length,e=aA fs[i]:=by grind
 have hfo:=HN _ (ax cF);have hF:Wd 100000 fs[i] d.params=some (G.ia d.params fs[i]):=if_pos ⟨hfo.1,hfo.2,by omega⟩;have hE:Ay d (fs.drop i)=arr (G.ia d.params fs[i]) (Ay d (fs.drop (i+1))):=by rw[aG cF];rfl
 have hs:∀ j,H.get (N+j)=none:=λj=>hv _ (by omega);have n6:¬ id=2:=by omega
 refine Zh (I:=I) (k:=0) rfl ?_;show Wp I E 0 _ _ _ _ λex _ iz=>N<=iz.n/\iz.H.get 4=H.get 4/\(∀ i,iz.n<=i->iz.H.get i=none)/\(ex=.normal/\iz.H.get 3=H.get 3/\zDe d (fs.drop i) iz.H\/ex=.ret/\False);unfold zDe;rw[hE];generalize Ay d (fs.drop (i+1))=tt at hI2;generalize G.ia d.params fs[i]=y at hF;generalize fs[i]=ff at hF gid;cases tt;cases y;cases ff;cases d;simp only at hF;simp[aT]at hI1;simp[kZ]at hI2 gid;simp[vU,U,hs,g4,g9,g12,g14,gid,hI0,hI1,hI2,n6,hB,OZ,hF,hA,Nf,aT,kZ,eH];grind;rintro H N log hN hv ⟨j1,j2,j3⟩;exact bM.mk (k:=0) (aw.bw 4 (TL:=[(4,.ptr 0 0 0),(9,.ptr 1 0 0),(12,.ptr 2 0 0)]) (HL:=[(0,.arr 6 0 [[.int .i64 0,.int .i64 0,.str [],.int .i64 0,.int .i64 0,.a8]] true false false),(1,.arr 4 0 [aT d] true false false),(2,.arr 5 0 [aA (Ay d fs)] true false false)]) (by simp) (by simp[j1,j2,j3,kZ,aT]) rfl rfl) hQ
theorem zp1 (v8:E.dA 87=Cq) (hC:E.dA 88=LJ) (zOC:E.dA 89=sI (Ip 170)) (hB:E.dA 91=OZ) (hA:E.dA 90=Nf)   (hD:Gu D) (C:HS) :
 aS I Pg 45 [enc D,enc n] C (enc (Im D n)) C:=by
 refine fn hρ U aq Tryz.func45 lY.2 rfl (by simp) ?_ C;have mu:D.length<=100000/\∀ d∈D,d.ctors.length<=100000:=⟨by have:=hD.1;omega,λd hd=>by have:=(hD.2 d hd).2.1;omega⟩;have AI:findF D n=some (DU D n):=if_pos mu
 cases hf:zQ D n 0 with
 | none =>have CN:DU D n=⟨0,0,false⟩:=(by unfold DU;rw[hf]);have E4:Im D n=(PZ,false):=(by unfold Im;rw[Sc hf]);rw[E4];rw[CN]at AI;simp[U,v8,Cq,AI,PZ,wI]
 | some q =>
   let⟨i,k⟩:=q;let⟨hi,hk,tf,cR⟩:=Sb hf;have CN:DU D n=⟨(i:Int),(k:Int),true⟩:=(by unfold DU;rw[hf]);have E4:Im D n=(⟨(D[i].params.length:Int),Ay D[i] D[i].ctors[k].fields⟩,true):=(by unfold Im;rw[tf]);rw[E4];rw[CN]at AI;clear CN E4 tf;have hd:=hD.2 _ (ax hi);have hc:=hd.2.2 _ (ax hk);have m1:i*4 / 4=i:=(by omega);obtain⟨dd,jz⟩:∃ dd,D[i]=dd:=⟨_,rfl⟩;obtain⟨c,ua⟩:∃ c,D[i].ctors[k]=c:=⟨_,rfl⟩;have Nd:∀ h,dd.ctors[k]'h=c:=(by subst jz;intro h;exact ua);rw[ua]at hc ⊢;rw[jz]at hd hk ⊢;clear ua cR;have hk3:(k:Int)<dd.ctors.length:=(by omega);have m3:k*3 / 3=k:=(by omega);have m4:(k*3+2) / 3=k:=(by omega);obtain⟨p,hp⟩:∃ p,dd.params.length=p:=⟨_,rfl⟩;have sR:p<=1000:=(by rw[<- hp];exact hd.1);have r1:p*64<=1048576:=(by omega);have r2:p*5<=1048576:=(by omega);have pH:(rG p).length=p:=zd0;have lz:Ay dd []=G.mk 4 dd.name 0 0 (rG p):=(by rw[<- hp];rfl);have u4:=λT C Q=>zgm hρ U aq hB hA (d:=dd) (fs:=c.fields) hc.1 hc.2 hd.1 (sz:=68) rfl (T:=T) (C:=C) (Q:=Q);let⟨dp,dn,TT,zJL⟩:=dd;simp only at hp hk hk3 hd Nd lz;simp[U,v8,Cq,AI,hi,jz,m1,aT,hp,r1,r2]
   try refine⟨rfl,?_⟩
   refine TZ (aw.auto (TL:=[(4,.ptr 0 0 0),(5,.bool false),(7,.int .i64 (k:Int)),(9,.ptr 1 0 0),(10,.own 2 0 0 p (some p)),(34,.int .i64 (p:Int)),(35,.int .i64 0)]) (HL:=[(0,.arr 6 0 [[.int .i64 0,.int .i64 0,.str [],.int .i64 0,.int .i64 0,.a8]] true false false),(1,.arr 4 0 [aT ⟨dp,dn,TT,zJL⟩] true false false),(2,.arr 5 0 (List.replicate p [.int .i64 0,.str [],.int .i64 0,.int .i64 0,.a8]) true false true)]) (n:=3) (hH:=by simp[aT])) ?_
   refine rA hρ U aq p (nn:=3) (λj (_:Unit)=>[(4,.ptr 0 0 0),(5,.bool false),(7,.int .i64 (k:Int)),(9,.ptr 1 0 0),(10,.own 2 0 0 p (some p)),(34,.int .i64 (p:Int)),(35,.int .i64 (j:Int))])
    (λj _=>[(0,.arr 6 0 [[.int .i64 0,.int .i64 0,.str [],.int .i64 0,.int .i64 0,.a8]] true false false),(1,.arr 4 0 [aT ⟨dp,dn,TT,zJL⟩] true false false),(2,.arr 5 0 (vS (rG p) p j) true false true)]) (λj _=>True) ()
    (aw.My (λi=>i) 3 (by simp) (by simp[zf7,aT,kZ,wI]) (by simp) (by simp)) trivial ?_ ?_
   intro _ _ K;rw[zga pH];have gE:List.take p ((rG p).map aA)=(rG p).map aA:=aP (by rw[aN];omega);generalize rG p=vs at pH lz gE;simp[wW,U];refine bM.mk (aw.auto (TL:=[(4,.ptr 0 0 0),(7,.int .i64 (k:Int)),(9,.ptr 1 0 0),(10,.own 2 0 0 p (some p))]) (HL:=[(0,.arr 6 0 [[.int .i64 0,.int .i64 0,.str [],.int .i64 0,.int .i64 0,.a8]] true false false),(1,.arr 4 0 [aT ⟨dp,dn,TT,zJL⟩] true false false),(2,.arr 5 0 (vs.map aA) true false true)]) (n:=3) (hH:=by simp[aT])) ?_
   cases vs with
   | nil =>cases pH;simp[U,hC,zOC,hk,hk3,Nd,m3,m4,aT,iK,Lm,aK];refine u4 _ _ _ (aw.auto (hH:=by simp[lz,aT,kZ])) ?_;simp_all
   | cons v vs =>cases pH;have lE:vs.length+1<=1000:=sR;simp only[aL]at gE hp;simp at gE;simp[U,hC,DZ,lE,gE,zOC,hk,hk3,Nd,m3,m4,aT,iK,Lm,aK];refine u4 _ _ _ (aw.auto (hH:=by simp[lz,aT,kZ])) ?_;simp_all
   intro j _ hj _ K hK;have gO:(j:Int)<p:=(by omega);have cr:=bG (i:=j);have Yq:j<(vS (rG p) p j).length:=(by rw[zlq pH (dG hj)];exact hj);have zLU:∀ h,kF ((vS (rG p) p j)[j]'h) 0 [V.int .i64 2,.str [],.int .i64 (j:Int),.int .i64 0,.a8]=[V.int .i64 2,.str [],.int .i64 (j:Int),.int .i64 0,.a8]:=(by intro h;rw[zlr pH hj];rfl);have zpe:=zlo (l:=rG p) (p:=p) (j:=j) pH hj (e:=[V.int .i64 2,.str [],.int .i64 (j:Int),.int .i64 0,.a8]) (by rw[zd1];rfl);have aE:=hK () trivial;have Aj:(j*5) / 5=j:=(by omega);have Nl:(j*5) % 5=0:=(by omega);simp[wW,U,hj,gO,cr,Yq,Aj,Nl,zLU,-Int.natCast_add];exact aE _ _ (aw.My (λi=>i) 3 (by simp[-Int.natCast_add]) (by simp[zpe,zlp,aT,-List.map_set]) (by simp) (by simp))
end
def zsk:Valid I Pg 89 (sI (Ip 170)):=Valid.Ft (fo Tryz.func89 nZ.2) λvs C D h=>by
 obtain⟨es,tg,rfl,hg,b4⟩:=QT h;exact zgL hρ (E:=EL []) rfl (aj aH) b4
open Classical in
def zp2(D:Z Decl)(n:Z Nat):Y (Scheme×Bool):=if Gu D then some (Im D n)else none
def ziG:J.Spec:=dC (cB zp2)
def zDK:Valid I Pg 45 ziG:=v2 (fo Tryz.func45 lY.2) λa b r h C=>by
 unfold zp2 at h;obtain⟨M,rfl⟩:=bF h
 exact zp1 hρ (E:=EL [(87,Cq),(88,LJ),(89,sI (Ip 170)),(91,OZ),(90,Nf)]) rfl
  (aj (ae (zhp hρ) (ae (zmX hρ) (ae (zsk hρ) (ae (zvK hρ) (ae (zhk hρ) aH)))))) rfl rfl rfl rfl rfl M C
end
def nu(s:Z G)(t:G):G:=if t.kind=2/\0<=t.id/\t.id<s.length then s.getD t.id.toNat t else t
def zii(s:Z G)(t:G):Y G:=if s.length<=100000/\t.ok=true then some (nu s t)else none
def zfc(d:Nat)(s:Z G)(t:G):Y G:=if s.length<=100000/\t.ok=true/\t.size<=d then some (t.GH (nu s))else none
section
variable (hρ:J.Good I)
include hρ
section
variable (U:E.P=Pg)(aq:bK I E)
include U aq
def PM  {s:Z G} {id:Nat}   (b4:(J4 (enc s) id [enc t,QN none 0] (enc (nu s t))).Fits vs C) :
 aS I Pg 262 vs C ((J4 (enc s) id [enc t,QN none 0] (enc (nu s t))).val C) ((J4 (enc s) id [enc t,QN none 0] (enc (nu s t))).heap C):=by
 refine em hρ U aq Tryz.func262 Kb.2 rfl (QO (by simp)) ?_ b4;show Wp I E 1 _ _ _ { H:=dP [(0,jw (enc s))],n:=1,log:=[] } (J.Leaves E.P _ (aJ 1 (enc (nu s t)) [(0,jw (enc s))]));unfold nu;let⟨tk,tn,ti,th,tl⟩:=t;show Wp I E 1 _ _ _ { H:=dP [(0,jw (enc s))],n:=1,log:=[] } (J.Leaves E.P _ (aJ 1 (enc (if tk=2/\0<=ti/\ti<s.length then s.getD ti.toNat (.mk tk tn ti th tl)else .mk tk tn ti th tl)) [(0,jw (enc s))]));by_cases hk:tk=2;subst hk;by_cases h0:0<=ti;obtain⟨i,rfl⟩:=bE h0;by_cases M:i<s.length;rw[if_pos ⟨rfl,h0,by omega⟩];have wx:(i:Int)<s.length:=by omega
 have Aj:(i*5) / 5=i:=by omega
 have hg:s.getD (i:Int).toNat (.mk 2 tn i th tl)=s[i]:=by simp[M]
 rw[hg];obtain⟨u,hu⟩:∃ u,s[i]=u:=⟨_,rfl⟩;rw[hu];cases u;simp[U,M,wx,Aj,hu];exact aJ.bw;rw[if_neg (by omega)];have wx:¬ (i:Int)<s.length:=by omega
 simp[U,M,wx];exact aJ.bw;rw[if_neg (by omega)];simp[U,h0];exact aJ.bw;rw[if_neg (by omega)];simp[U,hk];exact aJ.bw
def Mg(hL:E.dA 262=sI (Wt none zii))(hc:E.dA 163=sI (Wt (some 262) (zfc d))){s:Z G}(ht:t.ok=true)(hd:t.size<=d+1)(rn:s.length<=100000){id:Nat}
 (b4:(J4 (enc s) id [enc t,QN (some 262) 0] (enc (t.GH (nu s)))).Fits vs C) :
 aS I Pg 163 vs C ((J4 (enc s) id [enc t,QN (some 262) 0] (enc (t.GH (nu s)))).val C) ((J4 (enc s) id [enc t,QN (some 262) 0] (enc (t.GH (nu s)))).heap C):=by
 rw[<- U];refine zut hρ aq (by rw[U];exact follows) (by rw[U];exact named) (by rw[U];exact Tryz.func163) xD.2 rfl (QO (by simp)) ?_ b4;show Wp I E 1 _ _ _ { H:=dP [(0,jw (enc s))],n:=1,log:=[] } (J.Leaves E.P _ (Cm 1 (enc (t.GH (nu s))) [(0,jw (enc s))]));have hlen:=G.yJ ht;by_cases hk:t.args=[];rw[zcw hk];have hF:zii s t=some (nu s t):=if_pos ⟨rn,ht⟩;generalize nu s t=r at hF;cases t;simp only[G.iT]at hk;subst hk;simp[U,hL,hF];exact Cm.bw rfl rfl (by simp[kV]) (by simp[qu]);rw[NT hk];have As:¬ t.args.length=0:=λe=>hk (bV e);simp[U,hk,As];have k1:t.args.length*64<=1048576:=aO (aQ 64 hlen) (by decide);have k2:t.args.length*5<=1048576:=aO (aQ 5 hlen) (by decide);refine⟨⟨k1,k2⟩,?_⟩;have RJ:(t.args.map (G.GH (nu s))).length=t.args.length:=aN ..
 refine rA hρ U aq t.args.length (nn:=4) (λi (_:Unit)=>[(1,.func 262 [.ptr 0 0 0]),(2,.ptr 1 0 0),(4,.ptr 2 0 0),(5,.own 3 0 0 t.args.length (some t.args.length)),(20,.sl (t.args.map aA) false),(21,.int .i64 (t.args.length:Int)),(22,.int .i64 (i:Int))])
  (λi _=>[(0,jw (.sl (s.map aA) false)),(1,box (aA t)),(2,box Zl),(3,.arr 5 0 (nX (t.args.map (G.GH (nu s))) t.args.length i) true false true)]) (λi _=>True) ()
  (aw.auto (hH:=by simp[Ao])) trivial ?_ ?_
 intro _ _ K;rw[Aq RJ];simp[Ed,U];refine bM.mk (aw.auto (TL:=[(2,.ptr 1 0 0),(4,.ptr 2 0 0),(5,.own 3 0 0 t.args.length (some t.args.length))]) (HL:=[(0,jw (.sl (s.map aA) false)),(1,box (aA t)),(2,box Zl),(3,.arr 5 0 ((t.args.map (G.GH (nu s))).map aA) true false true)]) (n:=4)) ?_;simp[U];have HE:gP (t.args.map (aA ∘ G.GH (nu s)))=t.args.map (aA ∘ G.GH (nu s)):=by rw[<- gI];simp[-List.map_map]
 exact Cm.bw rfl rfl (by simp[kV,HE]) (by simp[qu]);intro i _ hi _ K hK;have cm:(i:Int)<t.args.length:=by omega
 have cr:=bG (i:=i);have hm:=ax hi;have hF:zfc d s t.args[i]=some (t.args[i].GH (nu s)):=if_pos ⟨rn,G.GL ht hm,by have:=G.Dr hm;omega⟩;have Yq:i<(nX (t.args.map (G.GH (nu s))) t.args.length i).length:=by rw[De RJ (dG hi)];exact hi
 have lO:=Ap RJ hi Yq;rw[iD]at lO;have aE:=hK () trivial;have Aj:(i*5) / 5=i:=by omega
 have Nl:(i*5) % 5=0:=by omega
 generalize hy:t.args[i].GH (nu s)=y at hF lO;simp[kZ]at lO;simp[Ed,U,hi,cm,hc,hF,cr,Yq,Aj,Nl,lO,-Int.natCast_add];exact aE _ _ (aw.auto)
def Uk(hc:E.dA 163=sI (Wt (some 262) (zfc d))){s:Z G}(ht:t.ok=true)(hd:t.size<=d)(rn:s.length<=100000)(C:HS):aS I Pg 235 [enc t,enc s] C (enc (t.GH (nu s))) C:=by
 refine fn hρ U aq Tryz.func235 O8.2 rfl (by simp) ?_ C;have hF:zfc d s t=some (t.GH (nu s)):=if_pos ⟨rn,ht,hd⟩;simp[U,hc,hF]
end
def zxi:Valid I Pg 262 (sI (Wt none zii)):=Valid.Ft (fo Tryz.func262 Kb.2) λvs C D h=>by
 obtain⟨s,a,r,id,hF,rfl,_,b4⟩:=Ws (λs=>by simp) h;obtain⟨⟨M,O⟩,rfl⟩:=bF hF;exact PM hρ (E:=EL []) rfl (aj aH) b4
def zjn(d:Nat):Valid I Pg 163 (sI (Wt (some 262) (zfc d))):=by
 induction d with
 | zero =>refine Valid.Ft (fo Tryz.func163 xD.2) λvs C D h=>?_;obtain⟨s,a,r,id,hF,rfl,_,b4⟩:=Ws (λs=>by simp) h;obtain⟨⟨M,O,h3⟩,rfl⟩:=bF hF;have:=G.size_eq a;omega
 | succ d ih =>
   refine Valid.Ft (fo Tryz.func163 xD.2) λvs C D h=>?_;obtain⟨s,a,r,id,hF,rfl,_,b4⟩:=Ws (λs=>by simp) h;obtain⟨⟨M,O,h3⟩,rfl⟩:=bF hF
   exact Mg hρ (E:=EL [(262,sI (Wt none zii)),(163,sI (Wt (some 262) (zfc d)))]) rfl
    (aj (ae (zxi hρ) (ae ih aH))) rfl rfl O h3 M b4
def Jv:J.Spec:=dC (cB λ(t:G) (s:Z G)=>if t.ok=true/\s.length<=100000 then some (t.GH (nu s))else none)
def zmW:Valid I Pg 235 Jv:=v2 (fo Tryz.func235 O8.2) λa b r h C=>by
 obtain⟨⟨M,O⟩,rfl⟩:=bF h;exact Uk hρ (E:=EL [(163,sI (Wt (some 262) (zfc a.size)))]) rfl (aj (ae (zjn hρ a.size) aH)) rfl M (af _) O C
end
mutual
theorem zqt:∀ {t:G},t.ok=true->(G.ia N t).ok=true
 | .mk k n i h l,eC=>by
   rw[G.ia];split;rfl;rw[G.ok]at eC ⊢;simp only[aW]at eC ⊢;refine⟨?_,ziO eC.2⟩;rw[zdY,aN];exact eC.1
theorem ziO:∀ {l:Z G},G.fl l=true->G.fl (G.Sp N l)=true
 | [],_=>by rw[G.Sp];rfl
 | t::l,h=>by
   rw[G.fl]at h;simp only[aW]at h;rw[G.Sp,G.fl,zqt h.1,ziO h.2];rfl
end
def sV(N:Z (Z Nat))(args:Z G)(f:G):G:=(G.ia N f).GH (nu args)
def pG(D:Z Decl)(n:Z Nat)(args:Z G):Z G×Bool:=match JS D n with
 |none=>([],false)
 |some (d,c)=>if args.length=d.params.length then (c.fields.map (sV d.params args),true)else ([],false)
open Classical in
def zaT(D:Z Decl)(n:Z Nat)(args:Z G):Y (Z G×Bool):=if Gu D/\args.length<=100000 then some (pG D n args)else none
def EE:J.Spec:=dC (zN zaT)
def ED(D:Z Decl)(ctx:Z Entry)(x:Xp):Scheme×Bool:=if x.kind=1 then uD ctx x.name else if x.kind=2 then Im D x.name else (PZ,false)
open Classical in
def MB(D:Z Decl)(ctx:Z Entry)(x:Xp):Y (Scheme×Bool):=if Gu D/\ctx.length<=100000 then some (ED D ctx x)else none
def Mx:J.Spec:=dC (zN MB)
section
variable (hρ:J.Good I)
include hρ
section
variable (U:E.P=Pg)(aq:bK I E)
include U aq
def MW (v8:E.dA 87=Cq) (hB:E.dA 91=OZ) (hO:E.dA 235=Jv)   {args:Z G} (hD:Gu D) (s4:args.length<=100000) (C:HS) :
 aS I Pg 204 [enc D,enc n,enc args] C (enc (pG D n args)) C:=by
 refine fn hρ U aq Tryz.func204 AP.2 rfl (by simp) ?_ C;have mu:D.length<=100000/\∀ d∈D,d.ctors.length<=100000:=⟨by have:=hD.1;omega,λd hd=>by have:=(hD.2 d hd).2.1;omega⟩;have AI:findF D n=some (DU D n):=if_pos mu
 cases hf:zQ D n 0 with
 | none =>have CN:DU D n=⟨0,0,false⟩:=(by unfold DU;rw[hf]);have E4:pG D n args=([],false):=(by unfold pG;rw[Sc hf]);rw[E4];rw[CN]at AI;simp[U,v8,Cq,AI]
 | some q =>
   let⟨i,k⟩:=q;let⟨hi,hk,tf,cR⟩:=Sb hf;have CN:DU D n=⟨(i:Int),(k:Int),true⟩:=(by unfold DU;rw[hf]);have E4:pG D n args=(if args.length=D[i].params.length then (D[i].ctors[k].fields.map (sV D[i].params args),true)else ([],false)):=(by unfold pG;rw[tf]);rw[E4];rw[CN]at AI;clear CN E4 tf;have hd:=hD.2 _ (ax hi);have hc:=hd.2.2 _ (ax hk);have HK:(i:Int)<D.length:=(by omega);have m1:i*4 / 4=i:=(by omega);have m2:(i*4+2) / 4=i:=(by omega);have zIF:(i*4+2) % 4=2:=(by omega);have m6:(i*4+3) / 4=i:=(by omega);have zPV:(i*4+3) % 4=3:=(by omega);obtain⟨dd,jz⟩:∃ dd,D[i]=dd:=⟨_,rfl⟩;obtain⟨c,ua⟩:∃ c,D[i].ctors[k]=c:=⟨_,rfl⟩;have Nd:∀ h,dd.ctors[k]'h=c:=(by subst jz;intro h;exact ua);rw[ua]at hc ⊢;rw[jz]at hd hk ⊢;clear ua cR;have hk3:(k:Int)<dd.ctors.length:=(by omega);have m3:k*3 / 3=k:=(by omega);have m4:(k*3+2) / 3=k:=(by omega);have m5:(k*3+2) % 3=2:=(by omega);let⟨dp,dn,TT,zJL⟩:=dd;simp only at hk hk3 hd Nd ⊢;by_cases he:args.length=TT.length;rw [if_pos he];have he2:(args.length:Int)=TT.length:=(by omega);simp[U,v8,Cq,AI,hi,HK,jz,m1,m2,zIF,m6,zPV,aT,hk,hk3,Nd,m3,m4,m5,iK,he,he2]
   refine rA hρ U aq c.fields.length (nn:=1) (λj (_:Unit)=>[(0,.sl (D.map aT) false),(2,.sl (args.map aA) false),(8,.int .i64 (i:Int)),(11,oV 0 (((c.fields.map (sV TT args)).take j).map aA)),(42,.sl (c.fields.map aA) false),(43,.int .i64 (c.fields.length:Int)),(44,.int .i64 (j:Int))])
    (λj _=>oH 0 5 (((c.fields.map (sV TT args)).take j).map aA)) (λj _=>True) ()
    (aw.auto) trivial ?_ ?_
   intro _ _ K;have sx:(c.fields.map (sV TT args)).take c.fields.length=c.fields.map (sV TT args):=aP (by simp);rw[sx];generalize c.fields.map (sV TT args)=out
   cases out with
   | nil =>simp[qx,U];refine bM.mk (aw.auto (TL:=[(11,.a8)]) (HL:=[]) (n:=1)) ?_;simp[U]
   | cons y out =>simp[qx,U];refine bM.mk (aw.auto (TL:=[(11,oV 0 ((y::out).map aA))]) (HL:=oH 0 5 ((y::out).map aA)) (n:=1)) ?_;simp[U]
   intro j _ hj _ K hK;have gO:(j:Int)<c.fields.length:=(by omega);have cr:=bG (i:=j);have aE:=hK () trivial;have Aj:(j*5) / 5=j:=(by omega);have Nl:(j*5) % 5=0:=(by omega);have hfo:=hc.2 _ (ax hj);have hF:Wd 100000 c.fields[j] TT=some (G.ia TT c.fields[j]):=if_pos ⟨hfo.1,hfo.2,by have:=hd.1;omega⟩;have PD:(G.ia TT c.fields[j]).ok=true:=zqt hfo.1;have hlm:(c.fields.map (sV TT args)).length=c.fields.length:=aN ..;have hE:(c.fields.map (sV TT args)).take (j+1)=(c.fields.map (sV TT args)).take j++[sV TT args c.fields[j]]:=(by rw[df (by omega),iD]);have hlen:((c.fields.map (sV TT args)).take j).length=j:=(by rw[dR];omega);rw[hE]at aE;obtain⟨y,hy⟩:∃ y,sV TT args c.fields[j]=y:=⟨_,rfl⟩;rw[hy]at aE;replace hy:(G.ia TT c.fields[j]).GH (nu args)=y:=hy;generalize G.ia TT c.fields[j]=bb at hF PD hy;have k1:(j+1)*64<=1048576:=(by have:=hc.1;omega);obtain⟨out,pA⟩:∃ out,(c.fields.map (sV TT args)).take j=out:=⟨_,rfl⟩;rw[pA]at hlen aE;rw[pA];cases bb;cases y
   cases out with
   | nil =>simp[qx,U,hj,gO,Aj,Nl,hi,HK,jz,m1,m2,zIF,aT,hB,OZ,hF,hO,Jv,PD,s4,hy,cr,-Int.natCast_add];exact aE _ _ (aw.auto)
   | cons x out =>rw[aL]at hlen;rw[<- hlen]at k1;simp[qx,U,hj,gO,Aj,Nl,hi,HK,jz,m1,m2,zIF,aT,hB,OZ,hF,hO,Jv,PD,s4,hy,cr,k1,bf,-Int.natCast_add];exact aE _ _ (aw.auto)
   rw[if_neg he];have he2:¬ (args.length:Int)=TT.length:=(by omega);simp[U,v8,Cq,AI,hi,HK,jz,m1,m2,zIF,aT,he,he2]
theorem zkC(hL:E.dA 202=JA)(hC:E.dA 45=ziG){ctx:Z Entry}{x:Xp}(hD:Gu D)(hl:ctx.length<=100000)(C:HS):aS I Pg 129 [enc D,enc ctx,enc x] C (enc (ED D ctx x)) C:=by
 refine fn hρ U aq Tryz.func129 L8.2 rfl (by simp) ?_ C;have hF:zp2 D x.name=some (Im D x.name):=if_pos hD;unfold ED;by_cases M:x.kind=1;rw[if_pos M];generalize hq:uD ctx x.name=q;let⟨⟨sc,⟨tk,tn,ti,th,tl⟩⟩,b⟩:=q;cases x;simp only[Xp.fH,Xp.j4]at M hq;subst M;simp[U,bq,hL,JA,hl,hq];rw[if_neg M];by_cases O:x.kind=2;rw[if_pos O];generalize Im D x.name=q at hF;let⟨⟨sc,⟨tk,tn,ti,th,tl⟩⟩,b⟩:=q;cases x;simp only[Xp.fH,Xp.j4]at M O hF;subst O;simp[U,bq,hC,ziG,hF];simp_all [bq,PZ,wI]
end
def zsf:Valid I Pg 204 EE:=v3 (fo Tryz.func204 AP.2) λa b c r h C=>by
 unfold zaT at h;obtain⟨⟨M,O⟩,rfl⟩:=bF h;exact MW hρ (E:=EL [(87,Cq),(91,OZ),(235,Jv)]) rfl (aj (ae (zhp hρ) (ae (zvK hρ) (ae (zmW hρ) aH)))) rfl rfl rfl M O C
def zxk:Valid I Pg 129 Mx:=v3 (fo Tryz.func129 L8.2) λa b c r h C=>by
 unfold MB at h;obtain⟨⟨M,O⟩,rfl⟩:=bF h;exact zkC hρ (E:=EL [(202,JA),(45,ziG)]) rfl (aj (ae (zvI hρ) (ae (zDK hρ) aH))) rfl rfl M O C
end
structure C3 where
 l:List Am
@[simp] def C3.eta (a:C3):(⟨a.l⟩:C3)=a:=(rfl)
def oZ(a:C3):Z V:=[.sl (a.l.map dW) false]
@[simp] def zGI {a:C3}:oZ a=[.sl (a.l.map dW) false]:=(rfl)
def za4(c:Z V):Y C3:=match c with
 | [.sl es false]=>ob (eZ es:Y (Z Am)) λl=>some ⟨l⟩
 |_=>none
@[simp] def zpX {es:Z (Z V)}:za4 [.sl es false]=ob (eZ es:Y (Z Am)) λl=>some ⟨l⟩:=(rfl)
instance:iI C3 where
 cells:=oZ
 dec:=za4
 dD a:=by simp only[oZ,zpX,zuy,ed]
 bB c a h:=by unfold za4 at h;split at h;simp only[aC]at h;let⟨l,hl,h⟩:=h;cases h;have hl:=iZ hl;subst_vars;rfl;cases h
 bN a:=rfl
 norm a:=by simp only[oZ,fF,ig,zae]
@[simp] def zzX:@iI.dec C3 _=za4:=(rfl)
def pI:Z Ctor->Z Am->Bool
 | [],[]=>true
 |c::l,a::m=>decide (c.name=a.dA)&&pI l m
 |_,_=>false
def Zc:∀ {l:Z Ctor} {m:Z Am},l.length≠m.length->pI l m=false
 | [],[],h=>absurd rfl h
 | [],_::_,_=>rfl
 |_::_,[],_=>rfl
 | c::l,a::m,h=>by
   rw[pI,Zc (l:=l) (m:=m) (by simpa using h),Bool.and_false]
def MY(vs:Z V):Y V:=match vs with
 | [a,b,.func g' []]=>gd (Nat.beq g' 252) (ob (bo.dec a:Y (Z Ctor)) λl=>ob (bo.dec b:Y (Z Am)) λm=>if l.length<=100000 then some (.bool (pI l m))else none)
 |_=>none
theorem zuo{l:Z Ctor}(h:l.length<=100000):MY [enc l,enc m,.func 252 []]=some (.bool (pI l m)):=by
 unfold MY;simp_all
def zpT(h:MY vs=some v):∃ (l:Z Ctor) (m:Z Am),vs=[enc l,enc m,.func 252 []]/\l.length<=100000/\v=.bool (pI l m):=by
 unfold MY at h;split at h;rename_i a b g';simp only[bI,aC,J.beq_true]at h;obtain⟨rfl,l,hl,m,hm,h⟩:=h;obtain⟨M,rfl⟩:=bF h;exact⟨l,m,by rw[bo.bB _ _ hl,bo.bB _ _ hm],M,rfl⟩;cases h
def IL(d:Decl)(a:C3):Y Bool:=if d.ctors.length<=100000 then some (pI d.ctors a.l)else none
def Gh(D:Z Decl)(m:Z Am):Int:=gY (λd:Decl=>pI d.ctors m) D 0
def Cs(D:Z Decl)(m:Z Am):Int×Bool:=(max (Gh D m) 0,decide (0<=Gh D m))
section
variable (hρ:J.Good I)
include hρ
section
variable (U:E.P=Pg)(aq:bK I E)
include U aq
theorem zl7{a:Am}(C:HS):aS I Pg 252 [enc c,enc a] C (enc (decide (c.name=a.dA))) C:=by
 refine fn hρ U aq Tryz.func252 Gp.2 rfl (by simp) ?_ C;simp_all
theorem zun (hC:E.dA 252=dC (cB λ(c:Ctor) (a:Am)=>some (decide (c.name=a.dA)))) {l:Z Ctor}  (hl:l.length<=100000) (C:HS):aS I Pg 251 [enc l,enc m,.func 252 []] C (.bool (pI l m)) C:=by
 refine fn hρ U aq Tryz.func251 eO.2 rfl (by simp) ?_ C;by_cases hlm:l.length=m.length;generalize hr:pI l m=r;have zFX:(l.length:Int)=(m.length:Int):=by omega
 simp[U,hlm,zFX]
 refine rA hρ U aq l.length (nn:=0) (λi (_:Unit)=>[(0,.sl (l.map iK) false),(1,.sl (m.map dW) false),(2,.func 252 []),(15,.sl (l.map iK) false),(16,.int .i64 (l.length:Int)),(17,.int .i64 (i:Int))]) (λi _=>[])
  (λi _=>pI (l.drop i) (m.drop i)=r) () (aw.auto (by simp[hlm])) (by simpa using hr) ?_ ?_
 intro _ h K;rw[bz,hlm,bz,pI]at h;simp[eu,U];refine bM.mk (aw.auto (TL:=[]) (HL:=[]) (n:=0)) ?_;simp[U,<- h];intro i _ hi h K hK;have cm:(i:Int)<l.length:=by omega
 have ra:i<m.length:=by omega
 have HK:(i:Int)<m.length:=by omega
 have cr:=bG (i:=i);have m1:i*3 / 3=i:=by omega
 have m2:i*3 % 3=0:=by omega
 have m3:i*14 / 14=i:=by omega
 have m4:i*14 % 14=0:=by omega
 rw[aG hi,aG ra,pI]at h;have aE:=λe=>hK () e;generalize wk:l[i]=c at h;generalize wv:m[i]=a at h;by_cases he:c.name=a.dA;rw[decide_eq_true he,gG]at h;have aE:=hK () h;let⟨ap,ac,av,⟨bk,bp,bn,bm,bl,ba,⟨tk,tn,ti,th,tl⟩⟩⟩:=a;cases c;simp only[Am.JW]at he;simp[eu,U,hi,cm,ra,HK,m1,m2,m3,m4,wk,wv,iK,ik,bq,hC,he,cr,-Int.natCast_add];exact aE _ _ (aw.auto);rw[decide_eq_false he,sK]at h;let⟨ap,ac,av,⟨bk,bp,bn,bm,bl,ba,⟨tk,tn,ti,th,tl⟩⟩⟩:=a;cases c;simp only[Am.JW]at he;simp[eu,U,hi,cm,ra,HK,m1,m2,m3,m4,wk,wv,iK,ik,bq,hC,he];refine bM.mk (aw.auto (TL:=[(6,.bool false)]) (HL:=[]) (n:=0)) ?_;simp[U,<- h];rw[Zc hlm];have zFX:¬ (l.length:Int)=(m.length:Int):=by omega
 simp_all
end
def zxu:Valid I Pg 252 (dC (cB λ(c:Ctor) (a:Am)=>some (decide (c.name=a.dA)))):=v2 (fo Tryz.func252 Gp.2) λa b r h C=>by
 cases h;exact zl7 hρ (E:=EL []) rfl (aj aH) C
def zKq:Valid I Pg 251 (dC MY):=Valid.dC (fo Tryz.func251 eO.2) λvs v h C=>by
 obtain⟨l,m,rfl,M,rfl⟩:=zpT h;exact zun hρ (E:=EL [(252,dC (cB λ(c:Ctor) (a:Am)=>some (decide (c.name=a.dA))))]) rfl (aj (ae (zxu hρ) aH)) rfl M C
def zxt:Valid I Pg 250 (Qb 4 none (CB IL)):=Valid.rd (fo Tryz.func250 Kg.2) λX cs r h hp x X0 RL hX C q hq hc eV W=>by
 obtain⟨a,p,b,rfl,rfl,hF,rfl⟩:=Jn h;obtain⟨M,rfl⟩:=bF hF;have VI:(EL [(251,dC MY)]).P=Pg:=rfl;have cR:bK I (EL [(251,dC MY)]):=aj (ae (zKq hρ) aH);rcases W with⟨rfl,rfl,Bk,wa⟩|⟨es,i,rfl,cg,rfl,rfl,h5,h6,h7⟩;rcases hX with⟨rfl,_,_⟩|⟨es,e1,_⟩
 . refine UN (sz:=4) (g:=none) (RL:=[]) (cs:=[oZ p]) hρ cR follows named Tryz.func250 Kg.2 rfl hp ?_ hq hc eV (.inl ⟨rfl,rfl,Bk,wa⟩);rw[show Tryz.f250.ntmps=8 from rfl];have nj:=zuo (l:=a.ctors) (m:=p.l) M;generalize pI a.ctors p.l=bb at nj;cases a;cases p;simp at nj;have ua:(EL [(251,dC MY)]).dA 251=dC MY:=rfl;simp[VI,ua,aT,nj]
   all_goals exact aJ.bw
 cases e1;rcases hX with⟨e1,e2,_⟩|⟨Hb,e1,_⟩;rw[jA cg]at e2;cases e2;cases e1
end
def zo2(l:Z Decl)(c0:C3):Y Int:=if l.length<=100000/\∀ x∈l,(IL x c0).isSome=true then some (gY (λx=>(IL x c0).getD false) l 0)else none
section
variable (hρ:J.Good I)
include hρ
section
variable (U:E.P=Pg)(aq:bK I E)
include U aq
def tY(hc:E.dA 250=Qb 4 none (CB IL)){l:Z Decl}{c0:C3}(hl:l.length<=100000)(b7:∀ x∈l,(IL x c0).isSome=true)  {r:Int}(hr:gY (λx=>(IL x c0).getD false) l 0=r) :
 Wp I E 1 Tryz.f249.ntmps fw.1 ((PT.leaf.set 0 (.sl (l.map aT) false)).set 1 (.func 250 [.ptr 0 0 0])) { H:=dP [(0,box (oZ c0))],n:=1,log:=[] } (J.Leaves E.P Tryz.f249 (aJ 1 (enc r) [(0,box (oZ c0))])):=by
 rw[show Tryz.f249.ntmps=19 from rfl];simp[U]
 refine rA hρ U aq l.length (nn:=1) (λi (_:Unit)=>[(0,.sl (l.map aT) false),(1,.func 250 [.ptr 0 0 0]),(7,.int .i64 (l.length:Int)),(8,.int .i64 (i:Int))])
  (λi _=>[(0,box (oZ c0))]) (λi _=>gY (λx=>(IL x c0).getD false) (l.drop i) (i:Int)=r) ()
  (aw.auto) (by simpa using hr) ?_ ?_
 intro _ h K;rw[bz,gY]at h;simp[dO,U];refine bM.mk (aw.auto (TL:=[]) (HL:=[(0,box (oZ c0))]) (n:=1)) ?_;simp[U,<- h];exact aJ.bw;intro i _ hi h K hK;have cm:(i:Int)<l.length:=by omega
 have cr:=bG (i:=i);have Aj:(i*4) / 4=i:=by omega
 let⟨q,hq⟩:=bQ.1 (b7 l[i] (ax hi));rw[aG hi,gY,hq]at h;simp only[eD]at h
 cases q with
 | true =>rw[if_pos rfl]at h;simp[dO,U,hi,cm,Aj,hc,hq];refine bM.mk (aw.auto (TL:=[(4,.int .i64 (i:Int))]) (HL:=[(0,box (oZ c0))]) (n:=1)) ?_;simp[U,<- h];exact aJ.bw
 | false =>
   rw[if_neg (by decide)]at h;have aE:=hK () h;simp[dO,U,hi,cm,Aj,hc,hq,cr,-Int.natCast_add];exact aE _ _ (aw.auto)
def tT(hc:E.dA 250=Qb 4 none (CB IL)){l:Z Decl}{c0:C3}(hl:l.length<=100000)(b7:∀ x∈l,(IL x c0).isSome=true)(cg:l≠[]){r:Int}(hr:gY (λx=>(IL x c0).getD false) l 0=r) :
 Wp I E 2 Tryz.f249.ntmps fw.1 ((PT.leaf.set 0 (.own 1 (l.length-1) 0 l.length none)).set 1 (.func 250 [.ptr 0 0 0])) { H:=dP [(0,box (oZ c0)),(1,.arr 4 (l.length-1) (l.map aT) false false true)],n:=2,log:=[] } (J.Leaves E.P Tryz.f249 (aJ 2 (enc r) [(0,box (oZ c0)),(1,.arr 4 (l.length-1) (l.map aT) false false true)])):=by
 rw[show Tryz.f249.ntmps=19 from rfl];have py:0<l.length:=bR.2 cg;simp[U]
 refine rA hρ U aq l.length (nn:=2) (λi (_:Unit)=>[(0,.own 1 (l.length-1) 0 l.length none),(1,.func 250 [.ptr 0 0 0]),(7,.int .i64 (l.length:Int)),(8,.int .i64 (i:Int))])
  (λi _=>[(0,box (oZ c0)),(1,.arr 4 (l.length-1) (l.map aT) false false true)]) (λi _=>gY (λx=>(IL x c0).getD false) (l.drop i) (i:Int)=r) ()
  (aw.auto) (by simpa using hr) ?_ ?_
 intro _ h K;rw[bz,gY]at h;simp[dO,U];refine bM.mk (aw.auto (TL:=[]) (HL:=[(0,box (oZ c0)),(1,.arr 4 (l.length-1) (l.map aT) false false true)]) (n:=2)) ?_;simp[U,<- h];exact aJ.bw;intro i _ hi h K hK;have cm:(i:Int)<l.length:=by omega
 have cr:=bG (i:=i);have Aj:(i*4) / 4=i:=by omega
 have Nl:(i*4) % 4=0:=by omega
 let⟨q,hq⟩:=bQ.1 (b7 l[i] (ax hi));rw[aG hi,gY,hq]at h;simp only[eD]at h
 cases q with
 | true =>rw[if_pos rfl]at h;simp[dO,U,hi,cm,Aj,Nl,hc,hq];refine bM.mk (aw.auto (TL:=[(4,.int .i64 (i:Int))]) (HL:=[(0,box (oZ c0)),(1,.arr 4 (l.length-1) (l.map aT) false false true)]) (n:=2)) ?_;simp[U,<- h];exact aJ.bw
 | false =>
   rw[if_neg (by decide)]at h;have aE:=hK () h;simp[dO,U,hi,cm,Aj,Nl,hc,hq,cr,-Int.natCast_add];exact aE _ _ (aw.auto)
def tV{c0:C3} :
 Wp I E 1 Tryz.f249.ntmps fw.1 ((PT.leaf.set 0 .a8).set 1 (.func 250 [.ptr 0 0 0])) { H:=dP [(0,box (oZ c0))],n:=1,log:=[] } (J.Leaves E.P Tryz.f249 (aJ 1 (enc (-1:Int)) [(0,box (oZ c0))])):=by
 rw[show Tryz.f249.ntmps=19 from rfl];simp[U]
 refine rA hρ U aq 0 (nn:=1) (λi (_:Unit)=>[(7,.int .i64 0),(8,.int .i64 0)]) (λi _=>[(0,box (oZ c0))]) (λi _=>True) ()
  (aw.auto) trivial ?_ ?_
 intro _ h K;simp[dO,U];refine bM.mk (aw.auto (TL:=[]) (HL:=[(0,box (oZ c0))]) (n:=1)) ?_;simp[U];exact aJ.bw;omega
end
def uV:Valid I Pg 249 (Qb 4 (some 250) (CB zo2)):=Valid.rd (fo Tryz.func249 fw.2) λX cs r h hp x X0 RL hX C q hq hc eV W=>by
 obtain⟨l,c0,b,rfl,rfl,hF,rfl⟩:=Jn h;obtain⟨⟨M,O⟩,rfl⟩:=bF hF;have VI:(EL [(250,Qb 4 none (CB IL))]).P=Pg:=rfl;have cR:bK I (EL [(250,Qb 4 none (CB IL))]):=aj (ae (zxt hρ) aH);have cM:=λ(k:V) (RL:Z (Nat×J.Obj)) (T:PT V) (he) (hw) (W)=>UN (sz:=4) (g:=some 250) (X0:=k) (RL:=RL) (T:=T) (cs:=[oZ c0]) (x:=x) (C:=C) (q:=q) hρ cR follows named Tryz.func249 fw.2 he hp hw hq hc eV W;rcases W with⟨rfl,rfl,Bk,wa⟩|⟨es,i,rfl,cg,rfl,rfl,h5,h6,h7⟩;rcases hX with⟨rfl,_,_⟩|⟨es,e1,e2,e3,_⟩;exact cM _ [] _ rfl (tY hρ VI cR rfl M O rfl) (.inl ⟨rfl,rfl,Bk,wa⟩)
 cases es with
 | nil =>have e0:l=[]:=(by have e4:l.map aT=[]:=(by injection e1);exact kU.1 e4);subst e0;have e5:X0=V.a8:=e2;subst e5;exact cM _ [] _ rfl (tV hρ VI cR) (.inl ⟨rfl,rfl,Bk,wa⟩)
 |cons e es=>rw[xu]at e3;cases e3
 have hne2:∃ e l,es=e::l:=cK cg;rcases hX with⟨e1,e2,_⟩|⟨Hb,e1,e2,e3,_⟩;rw[jA cg]at e2;cases e2
 have e4:es=l.map aT:=by
  have e6:l.map aT=Hb:=by injection e1
  rw[jA cg]at e3
  cases Hb with
  |nil=>cases e3
  | cons y m =>rw[jA (by simp)]at e3;have e7:(J.oO 4 es)=J.oO 4 (y::m):=(by injection e3 with e8;injection e8);have e9:es=y::m:=(by unfold oO at e7;injection e7);rw[e9,<- e6]
 have oB:l≠[]:=λe=>cg (by rw[e4,e];rfl);have hV:∀ i,oV i (l.map aT)=.own i (l.length-1) 0 l.length none:=λi=>by rw[uA (by rw[<- e4];exact cg)];simp
 have hO:oH 1 4 (l.map aT)=[(1,.arr 4 (l.length-1) (l.map aT) false false true)]:=by rw[jA (by rw[<- e4];exact cg)];simp[J.oO]
 have hw:=tT hρ VI cR rfl M O oB rfl;refine cM (oV 1 es) (oH 1 4 es) _ rfl ?_ (.inr ⟨es,i,rfl,cg,rfl,rfl,h5,h6,h7⟩);subst e4;rw[hV];show Wp I _ ((1)+(oH 1 4 (l.map aT)).length) _ _ _ { H:=dP ([(0,box (oZ c0))]++oH 1 4 (l.map aT)),n:=1+(oH 1 4 (l.map aT)).length,log:=[] } (J.Leaves _ _ (aJ (1+(oH 1 4 (l.map aT)).length) _ ([(0,box (oZ c0))]++oH 1 4 (l.map aT))));rw[hO];exact hw
theorem zqz  (U:E.P=Pg) (aq:bK I E) (hI:E.dA 249=Qb 4 (some 250) (CB zo2))   (hD:D.length<=100000) (hC:∀ d∈D,d.ctors.length<=100000) (C:HS) :
 aS I Pg 196 [enc D,enc m] C (enc (Cs D m)) C:=by
 refine fn hρ U aq Tryz.func196 Ph.2 rfl (by simp) ?_ C;have b7:∀ x∈D,(IL x ⟨m⟩).isSome=true:=λx W=>by unfold IL;rw[if_pos (hC x W)];rfl
 have hF:zo2 D ⟨m⟩=some (Gh D m):=by
  unfold zo2;rw[if_pos ⟨hD,b7⟩]
  have key:∀ (L:Z Decl) (i:Int),(∀ x∈L,x∈D)->gY (λx=>(IL x ⟨m⟩).getD false) L i=gY (λd:Decl=>pI d.ctors m) L i:=by
   intro L
   induction L with
   |nil=>intro i _;rfl
   | cons d L ih =>intro i hL;have e:(IL d ⟨m⟩).getD false=pI d.ctors m:=(by unfold IL;rw[if_pos (hC d (hL d (aB ..)))];rfl);grind [gY,List.mem_cons_of_mem]
  exact congrArg some (key D 0 λ_ h=>h)
 unfold Cs;generalize Gh D m=x at hF;have hmax:(if x<0 then (0:Int)else x)=max x 0:=by omega
 simp_all
open Classical in
def zd6(D:Z Decl)(m:Z Am):Y (Int×Bool):=if Gu D then some (Cs D m)else none
def J6:J.Spec:=dC (cB zd6)
def zvL:Valid I Pg 196 J6:=v2 (fo Tryz.func196 Ph.2) λa b r h C=>by
 unfold zd6 at h;obtain⟨M,rfl⟩:=bF h;exact zqz hρ (E:=EL [(249,Qb 4 (some 250) (CB zo2))]) rfl (aj (ae (uV hρ) aH)) rfl (by have:=M.1;omega) (λd hd=>by have:=(M.2 d hd).2.1;omega) C
end
def zCr(vs:Z V):Y V:=match vs with
 | [.sl [] _]=>some (.sl [] true)
 |_=>none
def Hm(S:J.Spec):J.Spec:=λvs C=>match vs with
 | [.sl [] t]=>zfq zCr [.sl [] t] C
 |_=>S vs C
@[simp] def zwR  {t:Bool} :Hm S [.sl [] t] C=some (.sl [] true,C):=(rfl)
@[simp] def zuL  {t:Bool} {e:Z V} {es:Z (Z V)} :Hm S [.sl (e::es) t] C=S [.sl (e::es) t] C:=(rfl)
def Valid.zp7(hA:Valid I P f (zfq zCr))(hB:Valid I P f S):Valid I P f (Hm S) where
 fn:=hA.fn
 ok:=by intro vs C v a9 hq;unfold Hm at hq;split at hq;exact hA.ok hq;exact hB.ok hq
 kept:=by
  intro vs C q hq;unfold Hm at hq;split at hq;exact hA.kept hq;exact hB.kept hq
def UR{w:World}{t:Bool}{x:Value}(h:dZ I w F μ (.sl [] t) x):∃ a c,x=.slice a 0 c:=by
 have:=h.Dq
 cases this with
 |pT a c t h=>exact⟨a,c,rfl⟩
 |rj es b off size c t ys M O h3 h4 h5 h6=>exact⟨_,_,rfl⟩
theorem J7{w:World}{xs:Array Value}(h:Nk I w F μ [v] xs):∃ x,xs=#[x]/\dZ I w F μ v x:=by
 let⟨M,O⟩:=h;let⟨x,W,hr⟩:=O 0 v rfl;grind
section
open Go.RowKit Go.Extern.Stop Go.Stop Go.Extern
theorem wM(a:Addr)(c:Nat)(w:World):Calls Pg 193 #[.slice (some a) 0 c] w λe w'=>∃ x,e=.returned (.slice x 0 0)/\w'=w.alloc (.cells #[] 48):=by
 have M:∀ w,(binOp BinOp.eql 45 (.slice (some a) 0 c) (.slice none 0 0)).run Pg w=.ok (.bool false) w:=λw=>by kernel_rfl
 go_enter Tryz.func193,Tryz.ntmps193
 go_wp2
 go_ret
 simp_all
theorem wN(c:Nat)(w:World):Calls Pg 193 #[.slice none 0 c] w λe w'=>∃ x,e=.returned (.slice x 0 0)/\w'=w:=by
 have M:∀ w,(binOp BinOp.eql 45 (.slice none 0 c) (.slice none 0 0)).run Pg w=.ok (.bool true) w:=λw=>by kernel_rfl
 go_enter Tryz.func193,Tryz.ntmps193
 go_wp2
 go_ret
 simp_all
end
def yt :Valid I Pg 193 (zfq zCr):=Valid.out (fo Tryz.func193 lC.2) λvs v h w F μ xs hA _=>by
 unfold zCr at h;split at h;cases h;obtain⟨x,rfl,W⟩:=J7 hA;obtain⟨a,c,rfl⟩:=UR W
 cases a with
 | none =>refine(wN c w).mono ?_;rintro e w' ⟨x,rfl,rfl⟩;exact⟨_,rfl,.pT _ _ _ (λ_=>rfl),⟨rfl,rfl,rfl⟩,af _,λ_ _=>rfl⟩
 | some a =>refine(wM a c w).mono ?_;rintro e w' ⟨x,rfl,rfl⟩;refine⟨_,rfl,.pT _ _ _ (λ_=>rfl),?_,?_,?_⟩;exact⟨rfl,rfl,rfl⟩;simp;intro b hb;show (w.heap.push _)[b]?=_;rw[nQ,if_neg (Nat.ne_of_lt hb)]
 cases h
theorem yo(hρ:J.Good I):Valid I Pg 193 (sI (M8 11)):=by
 refine Valid.Ft (fo Tryz.func193 lC.2) λvs C D h=>?_;obtain⟨es,tg,cg,hl,fY,hac,rfl,hg,b4⟩:=Wm h;refine em hρ (E:=EL []) rfl (aj aH) Tryz.func193 lC.2 rfl hg ?_ b4;show Wp I _ 0 _ _ _ { H:=dP [],n:=0,log:=[] } (J.Leaves _ _ (aJ 0 (.own 0 0 0 es.length none) [(0,.arr 11 0 es false false true)]));have cd:bj 11 es=true:=by rw[lV];exactλe he=>(fY e he).1
 have qS:es.length*152<=1048576:=aO (aQ 152 hl) (by decide);have xf:es.length*11<=1048576:=aO (aQ 11 hl) (by decide);have oB:¬ es.length=0:=λh=>cg (bV h);rcases es with _|⟨e0,es⟩;grind;rw[aL]at qS xf;have Qr:∀ t,TB Pg .eql 45 (.sl (e0::es) t) .a8=some (.bool false):=λt=>by rfl
 have ri:(EL []).P=Pg:=rfl;have zpB:Ka e0=true/\kJ es=true:=by simpa using hac
 cases tg<;>simp[cd,qS,Qr,ri,zpB.1,zpB.2]
 all_goals exact aJ.Mz (λk=>if k=0 then 5 else k) rfl rfl ⟨rfl,rfl⟩ (by
  intro p hp;simp only[ag]at hp;subst hp;have e1:(e0::es).all (λe=>e.all V.bN)=true:=au.2 λe he=>(fY e he).2;have e3:∀ π,(J.Obj.arr 11 0 (e0::es) false false true).cw π=.arr 11 0 (e0::es) false false true:=λπ=>by show J.Obj.arr 11 0 ((e0::es).map λe=>e.map (V.jr π)) false false true=_;grind [AY,V.jF,List.all_eq_true]
  refine⟨e1,?_⟩;rw[e3]
  simp)
def iy:J.Spec:=Hm (sI (M8 11))
def zI(hρ:J.Good I):Valid I Pg 193 iy:=Valid.zp7 yt (yo hρ)
section
open Go.RowKit Go.Extern.Stop Go.Stop Go.Extern
theorem zJ(a:Addr)(c:Nat)(w:World):Calls Pg 198 #[.slice (some a) 0 c] w λe w'=>∃ x,e=.returned (.slice x 0 0)/\w'=w.alloc (.cells #[] 9):=by
 have M:∀ w,(binOp BinOp.eql 52 (.slice (some a) 0 c) (.slice none 0 0)).run Pg w=.ok (.bool false) w:=λw=>by kernel_rfl
 go_enter Tryz.func198,Tryz.ntmps198
 go_wp2
 go_ret
 simp_all
theorem zK(c:Nat)(w:World):Calls Pg 198 #[.slice none 0 c] w λe w'=>∃ x,e=.returned (.slice x 0 0)/\w'=w:=by
 have M:∀ w,(binOp BinOp.eql 52 (.slice none 0 c) (.slice none 0 0)).run Pg w=.ok (.bool true) w:=λw=>by kernel_rfl
 go_enter Tryz.func198,Tryz.ntmps198
 go_wp2
 go_ret
 simp_all
end
def BK :Valid I Pg 198 (zfq zCr):=Valid.out (fo Tryz.func198 nK.2) λvs v h w F μ xs hA _=>by
 unfold zCr at h;split at h;cases h;obtain⟨x,rfl,W⟩:=J7 hA;obtain⟨a,c,rfl⟩:=UR W
 cases a with
 | none =>refine(zK c w).mono ?_;rintro e w' ⟨x,rfl,rfl⟩;exact⟨_,rfl,.pT _ _ _ (λ_=>rfl),⟨rfl,rfl,rfl⟩,af _,λ_ _=>rfl⟩
 | some a =>refine(zJ a c w).mono ?_;rintro e w' ⟨x,rfl,rfl⟩;refine⟨_,rfl,.pT _ _ _ (λ_=>rfl),?_,?_,?_⟩;exact⟨rfl,rfl,rfl⟩;simp;intro b hb;show (w.heap.push _)[b]?=_;rw[nQ,if_neg (Nat.ne_of_lt hb)]
 cases h
theorem BJ(hρ:J.Good I):Valid I Pg 198 (sI (M8 1)):=by
 refine Valid.Ft (fo Tryz.func198 nK.2) λvs C D h=>?_;obtain⟨es,tg,cg,hl,fY,hac,rfl,hg,b4⟩:=Wm h;refine em hρ (E:=EL []) rfl (aj aH) Tryz.func198 nK.2 rfl hg ?_ b4;show Wp I _ 0 _ _ _ { H:=dP [],n:=0,log:=[] } (J.Leaves _ _ (aJ 0 (.own 0 0 0 es.length none) [(0,.arr 1 0 es false false true)]));have cd:bj 1 es=true:=by rw[lV];exactλe he=>(fY e he).1
 have qS:es.length*16<=1048576:=aO (aQ 16 hl) (by decide);have xf:es.length*1<=1048576:=aO (aQ 1 hl) (by decide);have oB:¬ es.length=0:=λh=>cg (bV h);rcases es with _|⟨e0,es⟩;grind;rw[aL]at qS xf;have Qr:∀ t,TB Pg .eql 52 (.sl (e0::es) t) .a8=some (.bool false):=λt=>by rfl
 have ri:(EL []).P=Pg:=rfl;have zpB:Ka e0=true/\kJ es=true:=by simpa using hac
 cases tg<;>simp[cd,qS,Qr,ri,zpB.1,zpB.2]
 all_goals exact aJ.Mz (λk=>if k=0 then 5 else k) rfl rfl ⟨rfl,rfl⟩ (by
  intro p hp;simp only[ag]at hp;subst hp;have e1:(e0::es).all (λe=>e.all V.bN)=true:=au.2 λe he=>(fY e he).2;have e3:∀ π,(J.Obj.arr 1 0 (e0::es) false false true).cw π=.arr 1 0 (e0::es) false false true:=λπ=>by show J.Obj.arr 1 0 ((e0::es).map λe=>e.map (V.jr π)) false false true=_;grind [AY,V.jF,List.all_eq_true]
  refine⟨e1,?_⟩;rw[e3]
  simp)
def gu:J.Spec:=Hm (sI (M8 1))
def Cw(hρ:J.Good I):Valid I Pg 198 gu:=Valid.zp7 BK (BJ hρ)
def zlK{l:Z Xp}:(BV (l.map bP) 11 tg).heap C={ H:=C.H.set C.n (.arr 11 0 (l.map bP) false false true),n:=C.n+1,log:=C.n::C.log }:=Si λe he=>by
 obtain⟨x,_,rfl⟩:=aF.1 he;exact iI.bN (α:=Xp) x
def zp6{l:Z (Z Nat)}:(BV (l.map b5) 1 tg).heap C={ H:=C.H.set C.n (.arr 1 0 (l.map b5) false false true),n:=C.n+1,log:=C.n::C.log }:=Si λe he=>by
 obtain⟨x,_,rfl⟩:=aF.1 he;rfl
def zAk{l:Z Xp}:((l.map bP).all λe=>et (Nat.beq (dB e) 11) (e.all V.bN))=true:=au.2 λe he=>by
 obtain⟨x,_,rfl⟩:=aF.1 he;have:=iI.bN (α:=Xp) x;rw[show iI.cells x=bP x from rfl]at this;rw[this,bq];rfl
def zHl{l:Z (Z Nat)}:((l.map b5).all λe=>et (Nat.beq (dB e) 1) (e.all V.bN))=true:=au.2 λe he=>by
 obtain⟨x,_,rfl⟩:=aF.1 he;rfl
def WD(e:Xp):Y (Z Xp):=if e.kids.length<=900/\e.b8.length<=1000/\(e.kids=[]->e.b8=[])then some (BX e)else none
def zbJ(N cI:Z (Z Nat)):Y (Z (Z Nat)):=if N.length<=1000/\cI.length<=1000 then some (N++cI)else none
def Ww(e:Xp)(i:Int):Y (Z (Z Nat)):=if 0<=i/\i<(e.kids.length:Int)+e.b8.length/\e.kids.length<=1000/\e.b8.length<=1000 then some (fO e i.toNat)else none
section
variable (hρ:J.Good I)
include hρ
section
variable (U:E.P=Pg)(aq:bK I E)
include U aq
theorem zzQ(hC:E.dA 193=iy){e:Xp}(M:e.kids.length<=900)(O:e.b8.length<=1000)(h3:e.kids=[]->e.b8=[])(C:HS):aS I Pg 114 [enc e] C (enc (BX e)) C:=by
 refine fn hρ U aq Tryz.func114 Ci.2 rfl (by simp) ?_ C;unfold BX;let⟨ek,ep,en,em,ks,cq,⟨m8,mL,m9,nq,m7⟩⟩:=e;simp only[Xp.kL,Xp.lh]at M O h3 ⊢
 cases ks with
 | nil =>obtain rfl:=h3 rfl;simp[U,bq,hC,iy];refine rA hρ U aq 0 (nn:=0) (λi (_:Unit)=>[(3,.sl [] true),(11,.int .i64 0),(12,.int .i64 0)]) (λi _=>[]) (λi _=>True) () (aw.auto) trivial ?_ ?_;intro _ _ K;simp[xO,U];refine bM.mk (aw.auto (TL:=[(3,.sl [] true)]) (HL:=[]) (n:=0)) ?_;simp[U];omega
 | cons k ks =>
   have hl:ks.length+1<=1000:=(by simp only[aL]at M;omega);have ew:=λtg C=>zlK (l:=k::ks) (tg:=tg) (C:=C);have b7:=zAk (l:=k::ks);simp only[aX,bq]at ew b7;simp only[aL]at M;simp[U,bq,hC,iy,hl,b7,ew,aK];have pH:(cq.map Am.body).length=cq.length:=aN ..
   refine rA hρ U aq cq.length (nn:=1) (λj (_:Unit)=>[(3,.own 0 j 0 (ks.length+1+j) none),(10,.sl (cq.map dW) false),(11,.int .i64 (cq.length:Int)),(12,.int .i64 (j:Int))])
    (λj _=>[(0,.arr 11 j ((k::ks++(cq.map Am.body).take j).map bP) false false true)]) (λj _=>True) () (aw.auto (hH:=by simp[bq])) trivial ?_ ?_
   intro _ _ K;have sx:(cq.map Am.body).take cq.length=cq.map Am.body:=aP (by simp);rw[sx];have Em:(k::ks++cq.map Am.body).length=ks.length+1+cq.length:=(by simp;omega);have Ix:(k::ks++cq.map Am.body).map bP=[V.int .i64 k.kind,.int .i64 k.pos,.str k.name,.int .i64 k.num,.sl (k.kids.map bP) false,.sl (k.b8.map dW) false,.int .i64 k.type.kind,.str k.type.name,.int .i64 k.type.id,.int .i64 k.type.home,.sl (k.type.args.map aA) false]::(ks.map bP++cq.map (bP ∘ Am.body)):=(by simp[bq k]);generalize k::ks++cq.map Am.body=L at Em Ix;simp[xO,U];refine bM.mk (aw.auto (TL:=[(3,.own 0 cq.length 0 (ks.length+1+cq.length) none)]) (HL:=[(0,.arr 11 cq.length (L.map bP) false false true)]) (n:=1)) ?_;rw[<- Em];have gE:List.take L.length (L.map bP)=L.map bP:=aP (by simp);simp[U,gE,Ix];grind [AU];intro j _ hj _ K hK;have gO:(j:Int)<cq.length:=(by omega);have cr:=bG (i:=j);have m1:j*14 / 14=j:=(by omega);have m2:j*14 % 14=0:=(by omega);have aE:=hK () trivial;have S6:(cq.map Am.body).take (j+1)=(cq.map Am.body).take j++[cq[j].body]:=(by rw[df (by omega),iD]);have Em:(k::ks++(cq.map Am.body).take j).length=ks.length+1+j:=(by simp;omega);rw[S6,<- fA,show ks.length+1+(j+1)=ks.length+1+j+1 by omega]at aE;generalize k::ks++(cq.map Am.body).take j=L at Em aE;rw[<- Em]at aE ⊢;have eA:(L.length+1)*152<=1048576:=aO (aQ 152 (show L.length+1<=6000 by omega)) (by decide);have gE:List.take L.length (L.map bP)=L.map bP:=aP (by simp);obtain⟨a,ha⟩:∃ a,cq[j]=a:=⟨_,rfl⟩;rw[ha]at aE;let⟨ap,ac,av,⟨bk,bp,bn,bm,bl,ba,⟨tk,tn,ti,th,tl⟩⟩⟩:=a;simp only[Am.EO]at aE;simp[xO,U,hj,gO,m1,m2,ha,ik,eA,gE,cr,bf,-Int.natCast_add];exact aE _ _ (aw.auto (hH:=by simp[bq]))
theorem zmO(hC:E.dA 198=gu)(M:N.length<=1000)(O:cI.length<=1000)(C:HS):aS I Pg 123 [enc N,enc cI] C (enc (N++cI)) C:=by
 refine fn hρ U aq Tryz.func123 Pf.2 rfl (by simp) ?_ C
 cases N with
 | nil =>
   have k2:cI.length*16<=1048576:=aO (aQ 16 O) (by decide)
   cases cI with
   |nil=>simp[U,hC,gu]
   | cons m cI =>rw[aL]at k2;simp[U,hC,gu,k2]
 | cons x N =>
   have hl:N.length+1<=1000:=M;have b7:=zHl (l:=x::N);have ew:=λtg C=>zp6 (l:=x::N) (tg:=tg) (C:=C);simp only[aX,b5]at ew b7;have k2:(N.length+1+cI.length)*16<=1048576:=aO (aQ 16 (show N.length+1+cI.length<=2000 by omega)) (by decide);have k3:(N.length+1)*16<=1048576:=aO (aQ 16 hl) (by decide)
   cases cI with
   |nil=>simp[U,hC,gu,hl,b7,ew,b5,k3,aK]
   | cons m cI =>
     rw[aL]at k2;have js:¬ N.length+1+(cI.length+1)<=N.length+1:=(by omega);simp[U,hC,gu,hl,b7,ew,k2,js,b5,aK];refine⟨by omega,?_⟩;rw[aP (by simp;omega)];simp_all
theorem zl1 {e:Xp}  (hi:i<e.kids.length+e.b8.length) (hk:e.kids.length<=1000) (hka:e.b8.length<=1000) (C:HS):aS I Pg 124 [enc e,.int .i64 (i:Int)] C (enc (fO e i)) C:=by
 refine fn hρ U aq Tryz.func124 LV.2 rfl (by simp) ?_ C;let⟨ek,ep,en,em,ks,cq,⟨m8,mL,m9,nq,m7⟩⟩:=e;simp only[Xp.kL,Xp.lh]at hi hk hka;by_cases h4:ek=4;simp_all [fO,bq];by_cases h7:ek=7;simp_all [fO,bq];by_cases h6:ek=6;subst h6;by_cases M:i=1;simp_all [fO,bq];have wx:¬ (i:Int)=1:=by omega
 simp_all [fO,bq];by_cases h8:ek=8;subst h8;by_cases hik:ks.length<=i;have zF4:¬ (i:Int)<ks.length:=by omega
 obtain⟨j,rfl⟩:∃ j,i=ks.length+j:=⟨i-ks.length,by omega⟩;have hj:j<cq.length:=by omega
 have hw:IntKind.i64.wrap (((ks.length+j:Nat):Int)-(ks.length:Int))=(j:Int):=by rw[show (((ks.length+j:Nat):Int)-(ks.length:Int))=(j:Int) by omega];exact wrap_i64 (by omega) (by omega)
 have m1:j*14 / 14=j:=by omega
 have m3:(j*14+2) / 14=j:=by omega
 obtain⟨a,ha⟩:∃ a,cq[j]=a:=⟨_,rfl⟩;let⟨ap,ac,av,⟨bk,bp,bn,bm,bl,ba,⟨tk,tn,ti,th,tl⟩⟩⟩:=a;simp_all [fO,bq,ik];have zF4:(i:Int)<ks.length:=by omega
 rw[show fO (.mk 8 ep en em ks cq (.mk m8 mL m9 nq m7)) i=[] by simp[fO,hik]];simp[U,bq,zF4,hik];simp_all [fO,bq]
end
def XN:Valid I Pg 114 (dC (cz WD)):=v1 (fo Tryz.func114 Ci.2) λa r h C=>by
 obtain⟨⟨M,O,h3⟩,rfl⟩:=bF h;exact zzQ hρ (E:=EL [(193,iy)]) rfl (aj (ae (zI hρ) aH)) rfl M O h3 C
def zDx:Valid I Pg 123 (dC (cB zbJ)):=v2 (fo Tryz.func123 Pf.2) λa b r h C=>by
 obtain⟨⟨M,O⟩,rfl⟩:=bF h;exact zmO hρ (E:=EL [(198,gu)]) rfl (aj (ae (Cw hρ) aH)) rfl M O C
def zmZ:Valid I Pg 124 (dC (cB Ww)):=v2 (fo Tryz.func124 LV.2) λa b r h C=>by
 obtain⟨⟨M,O,h3,h4⟩,rfl⟩:=bF h;obtain⟨i,rfl⟩:=bE M;exact zl1 hρ (E:=EL []) rfl (aj aH) (by omega) h3 h4 C
end
end Go.Proofs.YtfloillkpbhhhaaGreat
