import Derived.Test.YtocdkgjpdnamlaaGreatLUH0
import Derived.Test.YtocdkgjpdnamlaaGreatJPy
import Derived.Test.YtocdkgjpdnamlaaGreatJL
set_option linter.all false
noncomputable section
/- The program's unification: a pair of types. -/
namespace Go.Proofs.YtocdkgjpdnamlaaGreat
open Go.J
open Go.J.Enc (enc)
set_option maxRecDepth 100000
set_option maxHeartbeats 4000000
section
variable {ρ:Nat->Value}(hρ:J.Good ρ)
include hρ
section
variable {E:Env}(hE:E.P=Tryz.prog)(hcon:aZ ρ E)
include hE hcon
theorem Cs{sl:List Slot}{tr:List Change}{g:Nat}{xk xi xh yk yi yh:Int}{xn yn:List Nat}{xl yl:List Ty}(hl:xl.length=yl.length)(hll:xl.length<=1000000){k sz:Nat}(hk:k=4)(hsz:sz=164){T:PT V}{hs:HS}{Q:Ex->PT V->HS->Prop}
 (hT:Less k T hs (di [(12,.own 6 0 0 xl.length (some xl.length)),(6,.ptr 4 0 0),(7,.ptr 5 0 0),(144,.int .i64 (xl.length:Int)),(145,.int .i64 ((0:Nat):Int))]) { H:=di (aH sl tr (some g)++[(4,.arr 5 0 [[.int .i64 xk,.str xn,.int .i64 xi,.int .i64 xh,.sl (xl.map ax) false]] true false false),(5,.arr 5 0 [[.int .i64 yk,.str yn,.int .i64 yi,.int .i64 yh,.sl (yl.map ax) false]] true false false)]++[(6,wI [] xl.length)]),n:=8,log:=[] })
 (hQ:Q (.exit 1) (di [(12,.own 6 0 0 xl.length (some xl.length))]) { H:=di (aH sl tr (some g)++[(6,wI (vB xl yl) 0)]),n:=8,log:=[] }) :
 Ls ρ E k sz (.loop Ar) T hs Q:=by
 subst hk hsz
 refine DV hρ hE hcon xl.length (nn:=8) (fun i (_:Unit)=>[(12,.own 6 0 0 xl.length (some xl.length)),(6,.ptr 4 0 0),(7,.ptr 5 0 0),(144,.int .i64 (xl.length:Int)),(145,.int .i64 (i:Int))])
  (fun i _=>aH sl tr (some g)++[(4,.arr 5 0 [[.int .i64 xk,.str xn,.int .i64 xi,.int .i64 xh,.sl (xl.map ax) false]] true false false),(5,.arr 5 0 [[.int .i64 yk,.str yn,.int .i64 yi,.int .i64 yh,.sl (yl.map ax) false]] true false false)]++[(6,wI ((vB xl yl).take i) (xl.length-i))]) (fun _ _=>True) () (by simpa using hT) trivial ?_ ?_
 . intro _ _ K;rw[List.take_of_length_le (by rw[uw hl];exact Nat.le_refl _),Nat.sub_self];simp [Ar,hE,aH,wI];refine bq.mk (Less.auto ?_ ?_ ?_ ?_) hQ
   . simp[aH]
   . simp[aH,wI]
   . simp[aH]
   . simp[aH]<;>(intro x hx;first|omega|exact⟨.inl hx,by omega⟩)
 . intro i _ hi _ K hK;have hi':(i:Int)<xl.length:=by omega
   have hi2:i<yl.length:=by omega
   have hi3:(i:Int)<yl.length:=by omega
   have hw:IntKind.i64.wrap ((i:Int)+1)=((i+1:Nat):Int):=bu (by omega);have zoH:(i*5) / 5=i:=by omega
   have zoG:(i*5) % 5=0:=by omega
   have zH5:(i*10) / 10=i:=by omega
   have zH4:(i*10) % 10=0:=by omega
   have hnew:=hK () trivial;have zvj:i=((vB xl yl).take i).length:=by rw[List.length_take,uw hl];omega
   obtain⟨n,hn⟩:∃ n,xl.length-i=n+1:=⟨xl.length-i-1,by omega⟩;have hn2:xl.length-(i+1)=n:=by omega
   have t1:=Nz (n:=n) zvj;have t2:=TJ (n:=n) (y:=⟨xl[i],yl[i]⟩) zvj;rw[JJ hi hi2,hn2]at hnew;rw[hn];generalize (vB xl yl).take i=L at t1 t2 hnew zvj;obtain⟨u,hu⟩:∃ u,xl[i]=u:=⟨_,rfl⟩;obtain⟨v,hv⟩:∃ v,yl[i]=v:=⟨_,rfl⟩;rw[hu,hv]at t2 hnew;obtain⟨uk,un,ui,uh,ul⟩:=u;obtain⟨vk,vn,vi,vh,vl⟩:=v;simp only[aF,YH,Ty.dx,Ty.vN,Ty.gz,Ty.tH,Ty.cZ]at t1 t2;simp [Ar,hE,aH,wI,YH,hi,hi',hi2,hu,hv,zH5,zH4,hw,t1,t2,-Int.natCast_add,-List.map_append];exact hnew _ _ (Less.auto (by simp[aH,-Int.natCast_add]) (by simp[aH,wI,YH]) (by simp[aH]) (by simp[aH]<;>(intro x hx;first|omega|exact⟨.inl hx,by omega⟩)))
theorem Jb {d:Nat} (hZ:E.dS 46=dW) (hW:E.dS 67=Zi (zp3 Dx)) (nT:E.dS 73=Oj (sO wz)) (hJ:E.dS 74=dN (sO DY)) (hB:E.dS 75=dN (sO (Er d))) {sl:List Slot} {tr:List Change} {g:Nat} {a b:Ty} (hok:Store.wm d ⟨sl,tr⟩ a b) {l:List aT} {e:Int} {sl':List Slot} {ex:List Change} (h:Store.gu ⟨sl,tr⟩ a b=(l,e,⟨sl',tr++ex⟩)) :
 Wp ρ E 4 164 zoW ((PT.leaf.set 0 (.ptr 0 0 0)).set 1 (enc (⟨a,b⟩:aT))) { H:=di (aH sl tr (some g)),n:=4,log:=[] } (J.Leaves E.P Tryz.f57 fun v hs=>aj 4 (.tuple [enc l,.int .i64 e]) (aH sl' (tr++ex) (gN (some g) ex.length)) v hs\/xY 4 (.tuple [enc l,.int .i64 e]) (aH sl' (tr++ex) (gN (some g) ex.length)) v hs):=by
 obtain⟨hso,hao,mM,htr,hbd⟩:=hok;have e2:(max (200:Int) 0).toNat=200:=rfl;have hsn:sl.length<=1000:=hso.1;have h6:sl.length<=1000000:=by omega
 have hno:∀ {n:Int},(([]:List aT),n,(⟨sl,tr⟩:Store))=(l,e,⟨sl',tr++ex⟩)->l=[]/\e=n/\sl=sl'/\ex=[]:=by
  intro n hh;obtain⟨h1,h2⟩:=Prod.mk.inj hh;obtain⟨h3,h4⟩:=Prod.mk.inj h2;obtain⟨h5,h6⟩:=Store.mk.inj h4;have h7:ex=[]:=by simpa using h6
  exact⟨h1.symm,h3.symm,h5,h7⟩
 unfold Store.gu at h;obtain⟨na,p8⟩:∃ n,sz (Store.w ⟨sl,tr⟩) a 200=n:=⟨_,rfl⟩;obtain⟨nb,rE⟩:∃ n,sz (Store.w ⟨sl,tr⟩) b 200=n:=⟨_,rfl⟩;have hfa:na<=200->∃ r,Rz (Store.w ⟨sl,tr⟩) a r/\r.size<=200:=fun hn=>gp.1 (by rw[p8];exact hn)
 rw[p8,rE]at h;obtain⟨x,jg⟩:∃ x,Store.w ⟨sl,tr⟩ a=x:=⟨_,rfl⟩;obtain⟨y,hwb⟩:∃ y,Store.w ⟨sl,tr⟩ b=y:=⟨_,rfl⟩;rw[jg,hwb]at h hbd;have hxo:x.ok=true:=jg ▸ Store.lL hso _ hao;have zyG:y.ok=true:=hwb ▸ Store.lL hso _ mM
 have hxl:na<=200->x.args.length<=200:=by
  intro hn;obtain⟨r,hr,hrs⟩:=hfa hn;obtain⟨m,hm,hm2⟩:=gH.1 hr;rw[jg]at hm;have h1:=hm.oo;have h2:=Yq m;have h3:r.args=m:=by rw[hm2];rfl
  have h4:=Ty.size_eq r;rw[h3]at h4;omega
 clear hfa;have kQ:=uD sl tr x;have kD:=uD sl tr y;obtain⟨ak,an,ai,ah,al⟩:=a;obtain⟨bk,bn,zsj,bh,bl⟩:=b;by_cases c0:200<na
 . have hna:(200:Int)<(na:Int):=by omega
   have zu3:200<na:=c0;rw[if_pos (.inl c0)]at h;obtain⟨rfl,rfl,rfl,rfl⟩:=hno h;simp [hE,aH,hZ,dW,hso,hao,e2,hna,p8];exact .inl (aj.keep rfl rfl (by simp) (by simp) (by simp))
 have hna:¬ (200:Int)<(na:Int):=by omega
 have zu3:¬ 200<na:=c0;by_cases c1:200<nb
 . have hnb:(200:Int)<(nb:Int):=by omega
   have zu1:200<nb:=c1;rw[if_pos (.inr c1)]at h;obtain⟨rfl,rfl,rfl,rfl⟩:=hno h;simp [hE,aH,hZ,dW,hso,hao,mM,e2,hna,p8,rE,hnb];exact .inl (aj.keep rfl rfl (by simp) (by simp) (by simp))
 have hnb:¬ (200:Int)<(nb:Int):=by omega
 have zu1:¬ 200<nb:=c1;rw[if_neg (by rintro (h|h)<;>omega)]at h;replace hxl:=hxl (by omega);by_cases fa:Store.iR ⟨sl,tr⟩ x=true
 . obtain⟨hkx,i,hxi,hil,hsx⟩:=Store.uQ fa;rw[if_pos fa,hsx]at kQ;by_cases fb:Store.iR ⟨sl,tr⟩ y=true
   . obtain⟨Hm,j,hyj,hjl,hsy⟩:=Store.uQ fb;rw[if_pos fb,hsy]at kD;by_cases hij:i=j
     . rw[if_pos ⟨hkx,Hm,by rw[hxi,hyj,hij]⟩]at h;obtain⟨rfl,rfl,rfl,rfl⟩:=hno h;obtain⟨p,hp⟩:∃ p,sl[i]=p:=⟨_,rfl⟩;obtain⟨q,hq⟩:∃ q,sl[j]=q:=⟨_,rfl⟩;rw[hp]at kQ;rw[hq]at kD;obtain⟨xk,xn,xi,xh,xl⟩:=x;obtain⟨yk,yn,yi,yh,yl⟩:=y;obtain⟨pb,⟨pk,pn,pi,ph,pl⟩,pm,pg⟩:=p;obtain⟨qb,⟨qk,qn,qi,qh,ql⟩,qm,qg⟩:=q;simp only[Ty.dx,Ty.gz]at hkx Hm hxi hyj;subst hkx Hm hxi hyj hij;simp at kQ kD;simp [hE,aH,hZ,dW,hso,hao,mM,e2,hna,hnb,hW,h6,ae,jg,hwb,nT,kQ,kD,p8,rE];exact .inl (aj.keep rfl rfl (by simp) (by simp) (by simp))
     . rw[if_neg (by rintro ⟨_,_,h3⟩;rw[hxi,hyj]at h3;omega),if_pos fa,if_pos fb]at h;have hj1:=(Prod.mk.inj h).1;have hj2:=(Prod.mk.inj (Prod.mk.inj h).2).1;have JE:=(Prod.mk.inj (Prod.mk.inj h).2).2;subst hj1 hj2;have hij2:¬ (i:Int)=j:=by omega
       have hF:=OT hxi hyj hil hjl hij (by simp only at htr;omega) hsn JE;clear h JE hbd;obtain⟨p,hp⟩:∃ p,sl[i]=p:=⟨_,rfl⟩;obtain⟨q,hq⟩:∃ q,sl[j]=q:=⟨_,rfl⟩;rw[hp]at kQ;rw[hq]at kD;obtain⟨xk,xn,xi,xh,xl⟩:=x;obtain⟨yk,yn,yi,yh,yl⟩:=y;obtain⟨pb,⟨pk,pn,pi,ph,pl⟩,pm,pg⟩:=p;obtain⟨qb,⟨qk,qn,qi,qh,ql⟩,qm,qg⟩:=q;simp only[Ty.dx,Ty.gz]at hkx Hm hxi hyj;subst hkx Hm hxi hyj;simp at kQ kD hF;obtain⟨tr2,d9⟩:∃ tr2,tr++ex=tr2:=⟨_,rfl⟩;simp [d9,hE,aH,hZ,dW,hso,hao,mM,e2,hna,hnb,hW,h6,ae,jg,hwb,nT,kQ,kD,hij2,p8,rE,hJ,hF];exact .inl (aj.keep rfl rfl (by simp) (by simp) (by simp))
   . rw [if_neg fb]at kD;obtain⟨hv1,hv2,hv3⟩:=hbd x y (.inl ⟨rfl,rfl⟩) fa;rw[hxi]at hv3;have hF:=BZ hxi hil hso zyG hv1 hv3 (by simp only at htr;omega) hsn;have hgr:=(Store.oL ⟨sl,tr⟩ (i:Int) y).eq;obtain⟨p,hp⟩:∃ p,sl[i]=p:=⟨_,rfl⟩;rw[hp]at kQ;by_cases hs3:y.kind=1/\x.id=y.id
     . rw[if_pos ⟨hkx,hs3.1,hs3.2⟩]at h;obtain⟨rfl,rfl,rfl,rfl⟩:=hno h;clear hF hgr hbd;obtain⟨xk,xn,xi,xh,xl⟩:=x;obtain⟨yk,yn,yi,yh,yl⟩:=y;obtain⟨pb,⟨pk,pn,pi,ph,pl⟩,pm,pg⟩:=p;simp only[Ty.dx,Ty.gz]at hkx hxi hs3;obtain⟨hs4,hs5⟩:=hs3;subst hkx hs4 hs5 hxi;simp[mR]at kQ kD;simp [hE,aH,hZ,dW,hso,hao,mM,e2,hna,hnb,hW,h6,ae,jg,hwb,nT,kQ,kD,p8,rE];exact .inl (aj.keep rfl rfl (by simp) (by simp) (by simp))
     . rw[if_neg (by rintro ⟨_,h2,h3⟩;exact hs3 ⟨h2,h3⟩),if_pos fa,if_neg fb,hxi]at h;have hj1:=(Prod.mk.inj h).1;have hj2:=(Prod.mk.inj (Prod.mk.inj h).2).1;have JE:=(Prod.mk.inj (Prod.mk.inj h).2).2;rw[JE]at hF;rw[hj2]at hF;simp only[List.drop_left]at hF;subst hj1;clear h JE hj2 hgr hbd;obtain⟨xk,xn,xi,xh,xl⟩:=x;obtain⟨yk,yn,yi,yh,yl⟩:=y;obtain⟨pb,⟨pk,pn,pi,ph,pl⟩,pm,pg⟩:=p;simp only[Ty.dx,Ty.gz]at hkx hxi hs3;subst hkx hxi;simp[mR]at kQ kD;simp at hF;by_cases hy1:yk=1
       . have hs4:¬ (i:Int)=yi:=fun e=>hs3 ⟨hy1,e⟩
         subst hy1;obtain⟨tr2,d9⟩:∃ tr2,tr++ex=tr2:=⟨_,rfl⟩;simp [d9,hE,aH,hZ,dW,hso,hao,mM,e2,hna,hnb,hW,h6,ae,jg,hwb,nT,kQ,kD,hs4,p8,rE,hB,hF];exact .inl (aj.keep rfl rfl (by simp) (by simp) (by simp))
       . skip
         obtain⟨tr2,d9⟩:∃ tr2,tr++ex=tr2:=⟨_,rfl⟩;simp [d9,hE,aH,hZ,dW,hso,hao,mM,e2,hna,hnb,hW,h6,ae,jg,hwb,nT,kQ,kD,hy1,p8,rE,hB,hF];exact .inl (aj.keep rfl rfl (by simp) (by simp) (by simp))
 . rw [if_neg fa]at kQ;by_cases fb:Store.iR ⟨sl,tr⟩ y=true
   . obtain⟨Hm,j,hyj,hjl,hsy⟩:=Store.uQ fb;rw[if_pos fb,hsy]at kD;obtain⟨hv1,hv2,hv3⟩:=hbd y x (.inr ⟨rfl,rfl⟩) fb;rw[hyj]at hv3;have hF:=BZ hyj hjl hso hxo hv1 hv3 (by simp only at htr;omega) hsn;obtain⟨p,hp⟩:∃ p,sl[j]=p:=⟨_,rfl⟩;rw[hp]at kD;by_cases hs3:x.kind=1/\x.id=y.id
     . rw[if_pos ⟨hs3.1,Hm,hs3.2⟩]at h;obtain⟨rfl,rfl,rfl,rfl⟩:=hno h;clear hF hbd;obtain⟨xk,xn,xi,xh,xl⟩:=x;obtain⟨yk,yn,yi,yh,yl⟩:=y;obtain⟨pb,⟨pk,pn,pi,ph,pl⟩,pm,pg⟩:=p;simp only[Ty.dx,Ty.gz]at Hm hyj hs3;obtain⟨hs4,hs5⟩:=hs3;subst Hm hs4 hs5 hyj;simp[mR]at kQ kD;simp [hE,aH,hZ,dW,hso,hao,mM,e2,hna,hnb,hW,h6,ae,jg,hwb,nT,kQ,kD,p8,rE];exact .inl (aj.keep rfl rfl (by simp) (by simp) (by simp))
     . rw[if_neg (by rintro ⟨h1,_,h3⟩;exact hs3 ⟨h1,h3⟩),if_neg fa,if_pos fb,hyj]at h;have hj1:=(Prod.mk.inj h).1;have hj2:=(Prod.mk.inj (Prod.mk.inj h).2).1;have JE:=(Prod.mk.inj (Prod.mk.inj h).2).2;rw[JE]at hF;rw[hj2]at hF;simp only[List.drop_left]at hF;subst hj1;clear h JE hj2 hbd;obtain⟨xk,xn,xi,xh,xl⟩:=x;obtain⟨yk,yn,yi,yh,yl⟩:=y;obtain⟨pb,⟨pk,pn,pi,ph,pl⟩,pm,pg⟩:=p;simp only[Ty.dx,Ty.gz]at Hm hyj hs3;subst Hm hyj;simp[mR]at kQ kD;simp at hF;by_cases hx1:xk=1
       . have hs4:¬ xi=(j:Int):=fun e=>hs3 ⟨hx1,e⟩
         subst hx1;obtain⟨tr2,d9⟩:∃ tr2,tr++ex=tr2:=⟨_,rfl⟩;simp [d9,hE,aH,hZ,dW,hso,hao,mM,e2,hna,hnb,hW,h6,ae,jg,hwb,nT,kQ,kD,hs4,p8,rE,hB,hF];exact .inl (aj.keep rfl rfl (by simp) (by simp) (by simp))
       . skip
         obtain⟨tr2,d9⟩:∃ tr2,tr++ex=tr2:=⟨_,rfl⟩;simp [d9,hE,aH,hZ,dW,hso,hao,mM,e2,hna,hnb,hW,h6,ae,jg,hwb,nT,kQ,kD,hx1,p8,rE,hB,hF];exact .inl (aj.keep rfl rfl (by simp) (by simp) (by simp))
   . rw [if_neg fb]at kD;simp[mR]at kQ kD;clear hbd;obtain⟨xk,xn,xi,xh,xl⟩:=x;obtain⟨yk,yn,yi,yh,yl⟩:=y;simp only[Ty.dx,Ty.gz,Ty.cZ]at h hxl;rw[if_neg fa,if_neg fb]at h;simp at kQ kD;by_cases h1:xk=yk
     . subst h1;by_cases hn:xn=yn
       . subst hn;by_cases hi:xi=yi
         . subst hi;by_cases hv:xk=1
           . subst hv;rw[if_pos ⟨rfl,rfl,rfl⟩]at h;obtain⟨rfl,rfl,rfl,rfl⟩:=hno h;simp [hE,aH,hZ,dW,hso,hao,mM,e2,hna,hnb,hW,h6,ae,jg,hwb,nT,kQ,kD,p8,rE];exact .inl (aj.keep rfl rfl (by simp) (by simp) (by simp))
           . rw [if_neg (fun hh=>hv hh.1)]at h;by_cases hh:xh=yh
             . subst hh;by_cases hl:xl.length=yl.length
               . rw[if_neg (by unfold Store.clash;simp[hl])]at h;have hj1:=(Prod.mk.inj h).1;have hj2:=(Prod.mk.inj (Prod.mk.inj h).2).1;have JE:=(Prod.mk.inj (Prod.mk.inj h).2).2;obtain⟨zLl,zLk⟩:=Store.mk.inj JE;have zLj:ex=[]:=by simpa using zLk.symm
                 replace hj1:l=vB xl yl:=hj1.symm;subst hj1 hj2 zLl zLj;have hzl:=uw hl;have ht:List.take xl.length (List.map aF (vB xl yl))=List.map aF (vB xl yl):=List.take_of_length_le (by rw[List.length_map,hzl];exact Nat.le_refl _);have r1:xl.length*128<=1048576:=by omega
                 have r2:xl.length*10<=1048576:=by omega
                 have hl':yl.length=xl.length:=hl.symm;simp [hE,aH,hZ,dW,hso,hao,mM,e2,hna,hnb,hW,h6,ae,jg,hwb,nT,kQ,kD,p8,rE,hv,hl',r1,r2,-List.map_replicate];refine Cs hρ hE hcon (sl:=sl) (tr:=tr) (g:=g) (xk:=xk) (xn:=xn) (xi:=xi) (xh:=xh) (xl:=xl) (yk:=xk) (yn:=xn) (yi:=xi) (yh:=xh) (yl:=yl) hl (by omega) rfl rfl (Less.auto (by simp[aH]) (by simp[aH,wI,YH]) (by simp[aH]) (by simp[aH]<;>(intro x hx;first|omega|exact⟨.inl hx,by omega⟩))) ?_;simp [hE,aH,wI];exact .inr (xY.keep rfl rfl (by simp[gV,hzl,ht]) (by simp[ownB]))
               . have hl2:¬ (xl.length:Int)=yl.length:=by omega
                 rw[if_pos (by unfold Store.clash;simp[hl])]at h;obtain⟨rfl,rfl,rfl,rfl⟩:=hno h;simp [hE,aH,hZ,dW,hso,hao,mM,e2,hna,hnb,hW,h6,ae,jg,hwb,nT,kQ,kD,p8,rE,hv,hl2];exact .inl (aj.keep rfl rfl (by simp) (by simp) (by simp))
             . rw[if_pos (by unfold Store.clash;simp[hh])]at h;obtain⟨rfl,rfl,rfl,rfl⟩:=hno h;simp [hE,aH,hZ,dW,hso,hao,mM,e2,hna,hnb,hW,h6,ae,jg,hwb,nT,kQ,kD,p8,rE,hv,hh];exact .inl (aj.keep rfl rfl (by simp) (by simp) (by simp))
         . rw[if_neg (fun hh=>hi hh.2.2),if_pos (by unfold Store.clash;simp[hi])]at h;obtain⟨rfl,rfl,rfl,rfl⟩:=hno h;by_cases hv:xk=1
           . subst hv;simp [hE,aH,hZ,dW,hso,hao,mM,e2,hna,hnb,hW,h6,ae,jg,hwb,nT,kQ,kD,p8,rE,hi];exact .inl (aj.keep rfl rfl (by simp) (by simp) (by simp))
           . simp [hE,aH,hZ,dW,hso,hao,mM,e2,hna,hnb,hW,h6,ae,jg,hwb,nT,kQ,kD,p8,rE,hi,hv];exact .inl (aj.keep rfl rfl (by simp) (by simp) (by simp))
       . have hcl:Store.clash (.mk xk xn xi xh xl) (.mk xk yn yi yh yl):=.inr (.inl hn);by_cases hv:xk=1/\xi=yi
         . rw[if_pos ⟨hv.1,hv.1,hv.2⟩]at h;obtain⟨rfl,rfl,rfl,rfl⟩:=hno h;obtain⟨hv1,hv2⟩:=hv;subst hv1 hv2;simp [hE,aH,hZ,dW,hso,hao,mM,e2,hna,hnb,hW,h6,ae,jg,hwb,nT,kQ,kD,p8,rE];exact .inl (aj.keep rfl rfl (by simp) (by simp) (by simp))
         . rw[if_neg (fun hh=>hv ⟨hh.1,hh.2.2⟩),if_pos hcl]at h;obtain⟨rfl,rfl,rfl,rfl⟩:=hno h;by_cases hv1:xk=1
           . have hi:¬ xi=yi:=fun e=>hv ⟨hv1,e⟩
             subst hv1;simp [hE,aH,hZ,dW,hso,hao,mM,e2,hna,hnb,hW,h6,ae,jg,hwb,nT,kQ,kD,p8,rE,hn,hi];exact .inl (aj.keep rfl rfl (by simp) (by simp) (by simp))
           . simp [hE,aH,hZ,dW,hso,hao,mM,e2,hna,hnb,hW,h6,ae,jg,hwb,nT,kQ,kD,p8,rE,hn,hv1];exact .inl (aj.keep rfl rfl (by simp) (by simp) (by simp))
     . have hcl:Store.clash (.mk xk xn xi xh xl) (.mk yk yn yi yh yl):=.inl h1;rw[if_neg (fun hh=>h1 (hh.1.trans hh.2.1.symm)),if_pos hcl]at h;obtain⟨rfl,rfl,rfl,rfl⟩:=hno h;by_cases hv:xk=1
       . subst hv;have hv2:¬ yk=1:=fun e=>h1 e.symm
         simp [hE,aH,hZ,dW,hso,hao,mM,e2,hna,hnb,hW,h6,ae,jg,hwb,nT,kQ,kD,p8,rE,h1,hv2];exact .inl (aj.keep rfl rfl (by simp) (by simp) (by simp))
       . simp [hE,aH,hZ,dW,hso,hao,mM,e2,hna,hnb,hW,h6,ae,jg,hwb,nT,kQ,kD,p8,rE,h1,hv];exact .inl (aj.keep rfl rfl (by simp) (by simp) (by simp))
end
end
end Go.Proofs.YtocdkgjpdnamlaaGreat
/- The program's unification: a pair of types: the contract;slices.IX over equations. -/
namespace Go.Proofs.YtocdkgjpdnamlaaGreat
open Go.J
open Go.J.Enc (enc)
set_option maxRecDepth 100000
set_option maxHeartbeats 1000000
open Classical in
def DN(d:Nat)(sl:List Slot)(tr:List Change)(args:List V):Option (V×List Slot×List Change):=match args with
 | [ev]=>ob (Enc.dec ev:Option aT) fun e=>if Store.wm d ⟨sl,tr⟩ e.left e.right then some (.tuple [enc (Store.gu ⟨sl,tr⟩ e.left e.right).1,.int .i64 (Store.gu ⟨sl,tr⟩ e.left e.right).2.1],(Store.gu ⟨sl,tr⟩ e.left e.right).2.2.slots,(Store.gu ⟨sl,tr⟩ e.left e.right).2.2.trail.drop tr.length)else none
 |_=>none
theorem Zq{d:Nat}{sl:List Slot}{tr:List Change}{args:List V}{q:V×List Slot×List Change}(h:DN d sl tr args=some q):∃ e:aT,args=[enc e]/\Store.wm d ⟨sl,tr⟩ e.left e.right/\q=(.tuple [enc (Store.gu ⟨sl,tr⟩ e.left e.right).1,.int .i64 (Store.gu ⟨sl,tr⟩ e.left e.right).2.1],(Store.gu ⟨sl,tr⟩ e.left e.right).2.2.slots,(Store.gu ⟨sl,tr⟩ e.left e.right).2.2.trail.drop tr.length):=by
 unfold DN at h;split at h
 . simp only[af]at h;obtain⟨e,he,h⟩:=h;split at h
   . rename_i hh;cases h;exact⟨e,by rw[Enc.aU _ _ he],hh,rfl⟩
   . cases h
 . cases h
open Classical in
theorem Gv{d:Nat}{sl:List Slot}{tr:List Change}{e:aT}(hh:Store.wm d ⟨sl,tr⟩ e.left e.right){l:List aT}{c:Int}{sl':List Slot}{ex:List Change}(h:Store.gu ⟨sl,tr⟩ e.left e.right=(l,c,⟨sl',tr++ex⟩)):DN d sl tr [enc e]=some (.tuple [enc l,.int .i64 c],sl',ex):=by
 show ob (Enc.dec (enc e):Option aT) _=_;rw[Enc.bV];show (if Store.wm d ⟨sl,tr⟩ e.left e.right then _ else none)=_;rw[if_pos hh,h];simp
theorem yL(s:Store)(a b:Ty):∃ m,Store.Grow s (s.gu a b).2.2 m:=by
 unfold Store.gu;split
 . exact⟨0,.refl _ _⟩
 split
 . exact⟨0,.refl _ _⟩
 split
 . split
   . exact⟨_,Store.Kc _ _ _⟩
   . exact⟨_,Store.oL _ _ _⟩
 split
 . exact⟨_,Store.oL _ _ _⟩
 split
 . exact⟨0,.refl _ _⟩
 . exact⟨0,.refl _ _⟩
section
variable {ρ:Nat->Value}(hρ:J.Good ρ)
include hρ
theorem zsK(d:Nat):Valid ρ Tryz.prog 57 (dN (sO (DN d))):=by
 refine Valid.PI (fo Tryz.func57 zvI) fun vs hs D h=>?_
 obtain⟨args,sl,tr,g,r,sl',ex,a,b,c,f,hF,rfl,_,hr,hg,hfit⟩:=yf h;obtain⟨e,rfl,h1,hq⟩:=Zq hF;cases hq;have zaO:(EL [(46,dW),(67,Zi (zp3 Dx)),(73,Oj (sO wz)),(74,dN (sO DY)),(75,dN (sO (Er d)))]).P=Tryz.prog:=rfl
 have hcn:aZ ρ (EL [(46,dW),(67,Zi (zp3 Dx)),(73,Oj (sO wz)),(74,dN (sO DY)),(75,dN (sO (Er d)))]) :=
  au (ag (zm4 hρ) (ag (zm2 hρ) (ag (zbf hρ) (ag (zsL hρ) (ag (zsN hρ d) az)))))
 obtain⟨m,hm⟩:=yL ⟨sl,tr⟩ e.left e.right;have he:=hm.eq;have heq:Store.gu ⟨sl,tr⟩ e.left e.right=((Store.gu ⟨sl,tr⟩ e.left e.right).1,(Store.gu ⟨sl,tr⟩ e.left e.right).2.1,⟨(Store.gu ⟨sl,tr⟩ e.left e.right).2.2.slots,tr++(Store.gu ⟨sl,tr⟩ e.left e.right).2.2.trail.drop tr.length⟩):=Prod.ext rfl (Prod.ext rfl he);obtain⟨el,er⟩:=e
 cases g with
 |none=>exact Yh hρ hcn follows named Tryz.func57 zvI rfl hg (Jd hρ zaO hcn rfl rfl rfl rfl rfl h1 heq) (fun _ _ h=>h) hfit
 |some g=>exact Yh hρ hcn follows named Tryz.func57 zvI rfl hg (Jb hρ zaO hcn rfl rfl rfl rfl rfl h1 heq) (fun _ _ h=>h) hfit
theorem zna:Valid ρ Tryz.prog 58 (dN (Es 76)):=by
 refine Valid.PI (fo Tryz.func58 zEs) fun vs hs D h=>?_
 obtain⟨es,tg,rfl,hg,hfit⟩:=zas h;refine em hρ (E:=EL []) rfl (au az) Tryz.func58 zEs rfl hg ?_ hfit;show Wp ρ _ 0 _ _ _ { H:=di [],n:=0,log:=[] } (J.Leaves _ _ (aj 0 (.func 76 [.ptr 0 0 0]) [(0,dn (.sl es tg))]));simp;exact aj.keep rfl rfl rfl rfl (by simp)
end
end Go.Proofs.YtocdkgjpdnamlaaGreat
/- The program's unification: the pairs of the arguments are pushed onto the work list. -/
namespace Go.Proofs.YtocdkgjpdnamlaaGreat
open Go.J
open Go.J.Enc (enc)
set_option maxRecDepth 100000
set_option maxHeartbeats 4000000
section
variable {ρ:Nat->Value}(hρ:J.Good ρ)
include hρ
section
variable {E:Env}(hE:E.P=Tryz.prog)(hcon:aZ ρ E)
include hE hcon
theorem jL {k:Nat} {sl2:List Slot} {tr2:List Change} {G2:Option Nat} {more l rows:List aT} {gen:Nat} {cap:Option Nat} {x:Bool} (hcap:∀ c,cap=some c->c=rows.length) (h1:rows.take l.length=l.reverse) (h2:l.length<=rows.length) (hll:l.length<=7000) (Ao:more.length<=1000)
 {T:PT V} {hs:HS} {Q:Ex->PT V->HS->Prop} (hT:Less k T hs (di [(7,.ptr 3 0 0),(8,.ptr 4 0 0),(43,.func 76 [.ptr 6 0 0])]) { H:=di (aC sl2 tr2 G2++[(3,dn (.ptr 0 0 0)),(4,dn (.own 5 gen 0 l.length cap)),(5,.arr 10 gen (rows.map aF) x false true),(6,dn (.sl (more.map aF) false))]),n:=7,log:=[] })
 (hQ:∀ H n log,7<n->(∀ i,n<=i->H.get i=none)->zwG (aC sl2 tr2 G2++[(3,dn (.ptr 0 0 0)),(6,dn (.sl (more.map aF) false))]) (more++l) H->bq k Q .normal (di [(7,.ptr 3 0 0),(8,.ptr 4 0 0),(43,.func 76 [.ptr 6 0 0])]) { H:=H,n:=n,log:=log }) :
 Ls ρ E k 50 (.range (.tmp 43) #[44,45] Mx yM) T hs Q:=by
 have ZQ:∀ p∈aC sl2 tr2 G2++[(3,dn (.ptr 0 0 0)),(6,dn (.sl (more.map aF) false))],p.1<4\/p.1=6:=by
  intro p hp
  cases G2 with
  | none =>
    simp only[aC,j4,List.append_nil,List.cons_append,List.nil_append,List.mem_cons,List.not_mem_nil,or_false]at hp;rcases hp with rfl|rfl|rfl|rfl<;>simp
  | some G =>
    simp only[aC,zbC,List.cons_append,List.nil_append,List.mem_cons,List.not_mem_nil,or_false]at hp;rcases hp with rfl|rfl|rfl|rfl|rfl<;>simp
 refine dJ (nQ hT ?_);refine zlx hρ hcon (by rw[hE];exact follows) (by rw[hE];exact named) ?_
 refine zpN (f:=76) (fn:=Tryz.f76) (tS:=98) (tE:=97) (tI:=3) (tB:=4) (IS:=zwP) (IE:=zay) (val:=fun e=>.agg e) (bx:=6) (by rw[hE];exact Tryz.func76) zMX (by kernel_rfl) (by kernel_rfl) (by rw[hE];simp) (by simp) (by rw[hE];simp) (es:=more.map aF) (tg:=false) (by rw[zJY];exact NA _) ?_ ?_ (by simp) (by cases G2<;>simp[aC]) (by omega) ?_ ?_
  (fun j H=>zwG (aC sl2 tr2 G2++[(3,dn (.ptr 0 0 0)),(6,dn (.sl (more.map aF) false))]) (more.drop j++l) H)
  (fun j e T H n=>zSO (aC sl2 tr2 G2++[(3,dn (.ptr 0 0 0)),(6,dn (.sl (more.map aF) false))]) (more.drop (j+1)++l) e T H n)
  (fun j H o h=>Yw (fun p hp=>by have:=ZQ p hp;omega) h) ?_ ?_ ?_ ?_ ?_
 . intro e he;obtain⟨c,_,rfl⟩:=List.mem_map.1 he;simp
 . simp;omega
 . intro i hi;obtain⟨j,rfl⟩:∃ j,i=j+7:=⟨i-7,by omega⟩;cases G2<;>simp[aC]
 . intro v1 v2;exact⟨_,rfl⟩
 . rintro j e T H n o ⟨g1,g2,id,g3,g4,g5,g6⟩;exact⟨Yw (fun p hp=>by have:=ZQ p hp;omega) g1,g2,id,g3,g4,g5,by rw[PT.bD,if_neg (by omega)];exact g6⟩
 . rw[List.length_map,List.drop_length,List.nil_append];refine⟨fun p hp=>?_,5,gen,cap,rows,x,by omega,by omega,by omega,by cases G2<;>simp[aC],by cases G2<;>simp[aC],h1,h2,hcap⟩
   cases G2 with
   | none =>
     simp only[aC,j4,List.append_nil,List.cons_append,List.nil_append,List.mem_cons,List.not_mem_nil,or_false]at hp;rcases hp with rfl|rfl|rfl|rfl<;>simp[aC]
   | some G =>
     simp only[aC,zbC,List.cons_append,List.nil_append,List.mem_cons,List.not_mem_nil,or_false]at hp;rcases hp with rfl|rfl|rfl|rfl|rfl<;>simp[aC]
 . intro i e he H n log T1 hn hv hI hz;cases hz;have hv':∀ j,H.get (n+j)=none:=fun j=>hv _ (by omega)
   have hv0:=hv n (Nat.le_refl _);have h7:¬ 7=n:=by omega
   have h6:¬ 6=n:=by omega
   obtain⟨c,rfl⟩:∃ c,e=aF c:=by
    have hm:=List.mem_of_getElem? he;obtain⟨c,_,rfl⟩:=List.mem_map.1 hm;exact⟨c,rfl⟩
   refine zso (ρ:=ρ) (k:=0) rfl ?_;simp [Mx,hE,hv',hv0,h7,h6];refine⟨fun j hj=>?_,zlp hv0 hI,by simp,n,by simp,by omega,by omega,by simp⟩;rw[if_neg (by omega),if_neg (by omega)];exact hv j (by omega)
 . rintro i e he H n log T2 hn hv ⟨hI,t8,id,zGl,i7,iN,gid⟩;have hv':∀ j,H.get (n+j)=none:=fun j=>hv _ (by omega)
   have hv0:=hv n (Nat.le_refl _);obtain⟨tJ,wB,gen,cap,rows,x,r5,r6,r7,g4,gr,k1,k2,k3⟩:=hI
   obtain⟨q,hq⟩:∃ q,more[i]?=some q:=by
    rw[List.getElem?_map,Option.map_eq_some_iff]at he;obtain⟨c,hc,_⟩:=he;exact⟨c,hc⟩
   have he':e=aF q:=by
    rw[List.getElem?_map,hq]at he;exact(Option.some.inj he).symm
   subst he';have hil:=(List.getElem?_eq_some_iff.1 hq).1;have hci:=(List.getElem?_eq_some_iff.1 hq).2;have hnext:more.drop i++l=q::(more.drop (i+1)++l):=by rw[List.drop_eq_getElem_cons hil,hci];rfl
   have zrc:(more.drop (i+1)++l).length<=8000:=by rw[List.length_append,List.length_drop];omega
   rw[hnext];generalize more.drop (i+1)++l=M at k1 k2 g4 zrc;obtain⟨J,hJ⟩:∃ J,rows=M.reverse++J:=⟨rows.drop M.length,by rw[<- k1,List.take_append_drop]⟩;obtain⟨A,hA⟩:∃ A,M.reverse=A:=⟨_,rfl⟩;have zOP:M.length=A.length:=by rw[<- hA,List.length_reverse]
   have hA2:(q::M).reverse=A++[q]:=by rw[List.reverse_cons,hA]
   rw[hA]at hJ;subst hJ;obtain⟨N,hN⟩:∃ N,M.length=N:=⟨_,rfl⟩;rw[hN]at g4 zrc zOP;subst zOP;have hrn:wB<n:=Nat.lt_of_not_le fun hle=>by rw[hv wB hle]at gr;cases gr
   have nr:∀ j,¬ wB=n+j:=fun j=>by omega
   have zKs:∀ j,¬ n+j=wB:=fun j=>by omega
   have nr0:¬ wB=n:=by omega
   have n4:∀ j,¬ 4=n+j:=fun j=>by omega
   have n40:¬ 4=n:=by omega
   have zKw:¬ wB=4:=by omega
   have zKv:¬ 4=wB:=by omega
   have n6:¬ 6=wB:=by omega
   have n7:¬ 7=wB:=by omega
   have zHj:∀ j,¬ 6=n+j:=fun j=>by omega
   have zHi:∀ j,¬ 7=n+j:=fun j=>by omega
   have nid:∀ j,¬ id=n+j:=fun j=>by omega
   have hroom:(A.length+1)*128<=1048576:=by omega
   have hov:∀ (c d:List V) (J':List aT),gy (A.map aF++c::J'.map aF) A.length [d]=A.map aF++d::J'.map aF:=fun c d J'=>Zu (by rw[List.length_map])
   have zuY:=hov
   try simp only[aF]at zuY
   have htk:List.take A.length (A.map aF)=A.map aF:=List.take_of_length_le (by rw[List.length_map];exact Nat.le_refl _);refine zso (ρ:=ρ) (k:=0) rfl ?_
   cases cap with
   | none =>
     cases J with
     | nil =>
       simp [yM,hE,hv',t8,zGl,g4,gr,gid,nr,n4,zKv,n6,n7,zHj,zHi,hroom,zKs,htk,Nat.not_succ_le_self,Nat.add_assoc];refine⟨fun j hj=>?_,fun p hp=>?_,wB,gen+1,none,A++[q],false,by omega,by omega,by omega,?_,?_,?_,?_,fun c hc=>by cases hc⟩
       . repeat rw[if_neg (by omega)]
         exact hv j (by omega)
       . have:=ZQ p hp;simp only[PT.bD]
         repeat rw[if_neg (by omega)]
         exact tJ p hp
       . simp[PT.bD,hN]<;>omega
       . simp[PT.bD,zKw]<;>omega
       . rw[hA2];exact List.take_of_length_le (by simp[hN])
       . simp[hN]
     | cons y J =>
       simp [yM,hE,hv',t8,zGl,g4,gr,gid,nr,n4,zKv,n6,n7,zHj,zHi,hroom,zuY,zKs,Nat.add_assoc];refine⟨fun j hj=>?_,fun p hp=>?_,wB,gen,none,A++q::J,x,by omega,by omega,by omega,?_,?_,?_,?_,fun c hc=>by cases hc⟩
       . repeat rw[if_neg (by omega)]
         exact hv j (by omega)
       . have:=ZQ p hp;simp only[PT.bD]
         repeat rw[if_neg (by omega)]
         exact tJ p hp
       . simp[PT.bD,hN]<;>omega
       . simp[PT.bD,zKw]<;>omega
       . rw[hA2];rw[show (q::M).length=(A++[q]).length by simp[hN],show A++q::J=(A++[q])++J by simp,List.take_left]
       . simp[hN]
   | some c =>
     have hc:=k3 c rfl
     cases J with
     | nil =>
       simp [yM,hE,hv',t8,zGl,g4,gr,gid,nr,n4,zHj,zHi,hroom,htk,hc,Nat.not_succ_le_self,Nat.add_assoc];refine⟨fun j hj=>?_,fun p hp=>?_,(n+3),0,none,A++[q],false,by omega,by omega,by omega,?_,?_,?_,?_,fun c hc=>by cases hc⟩
       . repeat rw[if_neg (by omega)]
         exact hv j (by omega)
       . have:=ZQ p hp;simp only[PT.bD]
         repeat rw[if_neg (by omega)]
         exact tJ p hp
       . simp[PT.bD,hN]<;>omega
       . simp[PT.bD]<;>omega
       . rw[hA2];exact List.take_of_length_le (by simp[hN])
       . simp[hN]
     | cons y J =>
       simp [yM,hE,hv',t8,zGl,g4,gr,gid,nr,n4,zKv,n6,n7,zHj,zHi,hroom,zuY,zKs,hc,Nat.add_assoc];refine⟨fun j hj=>?_,fun p hp=>?_,wB,gen,(some (A++q::J).length),A++q::J,x,by omega,by omega,by omega,?_,?_,?_,?_,fun c hc=>by cases hc;rfl⟩
       . repeat rw[if_neg (by omega)]
         exact hv j (by omega)
       . have:=ZQ p hp;simp only[PT.bD]
         repeat rw[if_neg (by omega)]
         exact tJ p hp
       . simp[PT.bD,hN]<;>omega
       . simp[PT.bD,zKw]<;>omega
       . rw[hA2];rw[show (q::M).length=(A++[q]).length by simp[hN],show A++q::J=(A++[q])++J by simp,List.take_left]
       . simp[hN]
 . rintro H n log hn hv hI;rw[List.drop_zero]at hI;exact hQ H n log hn hv hI
end
end
end Go.Proofs.YtocdkgjpdnamlaaGreat
