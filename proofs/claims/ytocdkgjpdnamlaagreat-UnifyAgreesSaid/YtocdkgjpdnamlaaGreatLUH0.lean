import Derived.Test.YtocdkgjpdnamlaaGreatLX9
import Derived.Test.YtocdkgjpdnamlaaGreatJPy
set_option linter.all false
noncomputable section
/- The program's unification: a pair of types. -/
namespace Go.Proofs.YtocdkgjpdnamlaaGreat
open Go.J
open Go.J.Enc (enc)
set_option maxRecDepth 100000
set_option maxHeartbeats 4000000
section
variable {ρ:Nat->Value}(hρ:J.Good ρ)
include hρ
section
variable {E:Env}(hE:E.P=Tryz.prog)(hcon:aZ ρ E)
include hE hcon
theorem Ct{sl:List Slot}{tr:List Change}{xk xi xh yk yi yh:Int}{xn yn:List Nat}{xl yl:List Ty}(hl:xl.length=yl.length)(hll:xl.length<=1000000){k sz:Nat}(hk:k=3)(hsz:sz=164){T:PT V}{hs:HS}{Q:Ex->PT V->HS->Prop}
 (hT:Less k T hs (di [(12,.own 6 0 0 xl.length (some xl.length)),(6,.ptr 4 0 0),(7,.ptr 5 0 0),(144,.int .i64 (xl.length:Int)),(145,.int .i64 ((0:Nat):Int))]) { H:=di (aH sl tr none++[(4,.arr 5 0 [[.int .i64 xk,.str xn,.int .i64 xi,.int .i64 xh,.sl (xl.map ax) false]] true false false),(5,.arr 5 0 [[.int .i64 yk,.str yn,.int .i64 yi,.int .i64 yh,.sl (yl.map ax) false]] true false false)]++[(6,wI [] xl.length)]),n:=8,log:=[] })
 (hQ:Q (.exit 1) (di [(12,.own 6 0 0 xl.length (some xl.length))]) { H:=di (aH sl tr none++[(6,wI (vB xl yl) 0)]),n:=8,log:=[] }) :
 Ls ρ E k sz (.loop Ar) T hs Q:=by
 subst hk hsz
 refine DV hρ hE hcon xl.length (nn:=8) (fun i (_:Unit)=>[(12,.own 6 0 0 xl.length (some xl.length)),(6,.ptr 4 0 0),(7,.ptr 5 0 0),(144,.int .i64 (xl.length:Int)),(145,.int .i64 (i:Int))])
  (fun i _=>aH sl tr none++[(4,.arr 5 0 [[.int .i64 xk,.str xn,.int .i64 xi,.int .i64 xh,.sl (xl.map ax) false]] true false false),(5,.arr 5 0 [[.int .i64 yk,.str yn,.int .i64 yi,.int .i64 yh,.sl (yl.map ax) false]] true false false)]++[(6,wI ((vB xl yl).take i) (xl.length-i))]) (fun _ _=>True) () (by simpa using hT) trivial ?_ ?_
 . intro _ _ K;rw[List.take_of_length_le (by rw[uw hl];exact Nat.le_refl _),Nat.sub_self];simp [Ar,hE,aH,wI];refine bq.mk (Less.auto ?_ ?_ ?_ ?_) hQ
   . simp[aH]
   . simp[aH,wI]
   . simp[aH]
   . simp[aH]<;>(intro x hx;first|omega|exact⟨.inl hx,by omega⟩)
 . intro i _ hi _ K hK;have hi':(i:Int)<xl.length:=by omega
   have hi2:i<yl.length:=by omega
   have hi3:(i:Int)<yl.length:=by omega
   have hw:IntKind.i64.wrap ((i:Int)+1)=((i+1:Nat):Int):=bu (by omega);have zoH:(i*5) / 5=i:=by omega
   have zoG:(i*5) % 5=0:=by omega
   have zH5:(i*10) / 10=i:=by omega
   have zH4:(i*10) % 10=0:=by omega
   have hnew:=hK () trivial;have zvj:i=((vB xl yl).take i).length:=by rw[List.length_take,uw hl];omega
   obtain⟨n,hn⟩:∃ n,xl.length-i=n+1:=⟨xl.length-i-1,by omega⟩;have hn2:xl.length-(i+1)=n:=by omega
   have t1:=Nz (n:=n) zvj;have t2:=TJ (n:=n) (y:=⟨xl[i],yl[i]⟩) zvj;rw[JJ hi hi2,hn2]at hnew;rw[hn];generalize (vB xl yl).take i=L at t1 t2 hnew zvj;obtain⟨u,hu⟩:∃ u,xl[i]=u:=⟨_,rfl⟩;obtain⟨v,hv⟩:∃ v,yl[i]=v:=⟨_,rfl⟩;rw[hu,hv]at t2 hnew;obtain⟨uk,un,ui,uh,ul⟩:=u;obtain⟨vk,vn,vi,vh,vl⟩:=v;simp only[aF,YH,Ty.dx,Ty.vN,Ty.gz,Ty.tH,Ty.cZ]at t1 t2;simp [Ar,hE,aH,wI,YH,hi,hi',hi2,hu,hv,zH5,zH4,hw,t1,t2,-Int.natCast_add,-List.map_append];exact hnew _ _ (Less.auto (by simp[aH,-Int.natCast_add]) (by simp[aH,wI,YH]) (by simp[aH]) (by simp[aH]<;>(intro x hx;first|omega|exact⟨.inl hx,by omega⟩)))
theorem Jd {d:Nat} (hZ:E.dS 46=dW) (hW:E.dS 67=Zi (zp3 Dx)) (nT:E.dS 73=Oj (sO wz)) (hJ:E.dS 74=dN (sO DY)) (hB:E.dS 75=dN (sO (Er d))) {sl:List Slot} {tr:List Change} {a b:Ty} (hok:Store.wm d ⟨sl,tr⟩ a b) {l:List aT} {e:Int} {sl':List Slot} {ex:List Change} (h:Store.gu ⟨sl,tr⟩ a b=(l,e,⟨sl',tr++ex⟩)) :
 Wp ρ E 3 164 zoW ((PT.leaf.set 0 (.ptr 0 0 0)).set 1 (enc (⟨a,b⟩:aT))) { H:=di (aH sl tr none),n:=3,log:=[] } (J.Leaves E.P Tryz.f57 fun v hs=>aj 3 (.tuple [enc l,.int .i64 e]) (aH sl' (tr++ex) (gN none ex.length)) v hs\/xY 3 (.tuple [enc l,.int .i64 e]) (aH sl' (tr++ex) (gN none ex.length)) v hs):=by
 obtain⟨hso,hao,mM,htr,hbd⟩:=hok;have e2:(max (200:Int) 0).toNat=200:=rfl;have hsn:sl.length<=1000:=hso.1;have h6:sl.length<=1000000:=by omega
 have hno:∀ {n:Int},(([]:List aT),n,(⟨sl,tr⟩:Store))=(l,e,⟨sl',tr++ex⟩)->l=[]/\e=n/\sl=sl'/\ex=[]:=by
  intro n hh;obtain⟨h1,h2⟩:=Prod.mk.inj hh;obtain⟨h3,h4⟩:=Prod.mk.inj h2;obtain⟨h5,h6⟩:=Store.mk.inj h4;have h7:ex=[]:=by simpa using h6
  exact⟨h1.symm,h3.symm,h5,h7⟩
 unfold Store.gu at h;obtain⟨na,p8⟩:∃ n,sz (Store.w ⟨sl,tr⟩) a 200=n:=⟨_,rfl⟩;obtain⟨nb,rE⟩:∃ n,sz (Store.w ⟨sl,tr⟩) b 200=n:=⟨_,rfl⟩;have hfa:na<=200->∃ r,Rz (Store.w ⟨sl,tr⟩) a r/\r.size<=200:=fun hn=>gp.1 (by rw[p8];exact hn)
 rw[p8,rE]at h;obtain⟨x,jg⟩:∃ x,Store.w ⟨sl,tr⟩ a=x:=⟨_,rfl⟩;obtain⟨y,hwb⟩:∃ y,Store.w ⟨sl,tr⟩ b=y:=⟨_,rfl⟩;rw[jg,hwb]at h hbd;have hxo:x.ok=true:=jg ▸ Store.lL hso _ hao;have zyG:y.ok=true:=hwb ▸ Store.lL hso _ mM
 have hxl:na<=200->x.args.length<=200:=by
  intro hn;obtain⟨r,hr,hrs⟩:=hfa hn;obtain⟨m,hm,hm2⟩:=gH.1 hr;rw[jg]at hm;have h1:=hm.oo;have h2:=Yq m;have h3:r.args=m:=by rw[hm2];rfl
  have h4:=Ty.size_eq r;rw[h3]at h4;omega
 clear hfa;have kQ:=uD sl tr x;have kD:=uD sl tr y;obtain⟨ak,an,ai,ah,al⟩:=a;obtain⟨bk,bn,zsj,bh,bl⟩:=b;by_cases c0:200<na
 . have hna:(200:Int)<(na:Int):=by omega
   have zu3:200<na:=c0;rw[if_pos (.inl c0)]at h;obtain⟨rfl,rfl,rfl,rfl⟩:=hno h;simp [hE,aH,hZ,dW,hso,hao,e2,hna,p8];exact .inl (aj.keep rfl rfl (by simp) (by simp) (by simp))
 have hna:¬ (200:Int)<(na:Int):=by omega
 have zu3:¬ 200<na:=c0;by_cases c1:200<nb
 . have hnb:(200:Int)<(nb:Int):=by omega
   have zu1:200<nb:=c1;rw[if_pos (.inr c1)]at h;obtain⟨rfl,rfl,rfl,rfl⟩:=hno h;simp [hE,aH,hZ,dW,hso,hao,mM,e2,hna,p8,rE,hnb];exact .inl (aj.keep rfl rfl (by simp) (by simp) (by simp))
 have hnb:¬ (200:Int)<(nb:Int):=by omega
 have zu1:¬ 200<nb:=c1;rw[if_neg (by rintro (h|h)<;>omega)]at h;replace hxl:=hxl (by omega);by_cases fa:Store.iR ⟨sl,tr⟩ x=true
 . obtain ⟨hkx,i,hxi,hil,hsx⟩:=Store.uQ fa;rw[if_pos fa,hsx]at kQ;by_cases fb:Store.iR ⟨sl,tr⟩ y=true
   . obtain⟨Hm,j,hyj,hjl,hsy⟩:=Store.uQ fb;rw[if_pos fb,hsy]at kD;by_cases hij:i=j
     . rw[if_pos ⟨hkx,Hm,by rw[hxi,hyj,hij]⟩]at h;obtain⟨rfl,rfl,rfl,rfl⟩:=hno h;obtain⟨p,hp⟩:∃ p,sl[i]=p:=⟨_,rfl⟩;obtain⟨q,hq⟩:∃ q,sl[j]=q:=⟨_,rfl⟩;rw[hp]at kQ;rw[hq]at kD;obtain⟨xk,xn,xi,xh,xl⟩:=x;obtain⟨yk,yn,yi,yh,yl⟩:=y;obtain⟨pb,⟨pk,pn,pi,ph,pl⟩,pm,pg⟩:=p;obtain⟨qb,⟨qk,qn,qi,qh,ql⟩,qm,qg⟩:=q;simp only[Ty.dx,Ty.gz]at hkx Hm hxi hyj;subst hkx Hm hxi hyj hij;simp at kQ kD;simp [hE,aH,hZ,dW,hso,hao,mM,e2,hna,hnb,hW,h6,ae,jg,hwb,nT,kQ,kD,p8,rE];exact .inl (aj.keep rfl rfl (by simp) (by simp) (by simp))
     . rw[if_neg (by rintro ⟨_,_,h3⟩;rw[hxi,hyj]at h3;omega),if_pos fa,if_pos fb]at h;have hj1:=(Prod.mk.inj h).1;have hj2:=(Prod.mk.inj (Prod.mk.inj h).2).1;have JE:=(Prod.mk.inj (Prod.mk.inj h).2).2;subst hj1 hj2;have hij2:¬ (i:Int)=j:=by omega
       have hF:=OT hxi hyj hil hjl hij (by simp only at htr;omega) hsn JE;clear h JE hbd;obtain⟨p,hp⟩:∃ p,sl[i]=p:=⟨_,rfl⟩;obtain⟨q,hq⟩:∃ q,sl[j]=q:=⟨_,rfl⟩;rw[hp]at kQ;rw[hq]at kD;obtain⟨xk,xn,xi,xh,xl⟩:=x;obtain⟨yk,yn,yi,yh,yl⟩:=y;obtain⟨pb,⟨pk,pn,pi,ph,pl⟩,pm,pg⟩:=p;obtain⟨qb,⟨qk,qn,qi,qh,ql⟩,qm,qg⟩:=q;simp only[Ty.dx,Ty.gz]at hkx Hm hxi hyj;subst hkx Hm hxi hyj;simp at kQ kD hF;rcases ex with _|⟨c,ex⟩
       . simp [hE,aH,hZ,dW,hso,hao,mM,e2,hna,hnb,hW,h6,ae,jg,hwb,nT,kQ,kD,hij2,p8,rE,hJ,hF];exact .inl (aj.keep rfl rfl (by simp) (by simp) (by simp))
       . obtain⟨tr2,d9⟩:∃ tr2,tr++c::ex=tr2:=⟨_,rfl⟩;simp [d9,hE,aH,hZ,dW,hso,hao,mM,e2,hna,hnb,hW,h6,ae,jg,hwb,nT,kQ,kD,hij2,p8,rE,hJ,hF];exact .inl (aj.Qf (by simp) (by simp) (by simp) (by simp) (by simp<;>(intro x hx;first|omega|exact⟨.inl hx,by omega⟩)))
   . rw [if_neg fb]at kD;obtain⟨hv1,hv2,hv3⟩:=hbd x y (.inl ⟨rfl,rfl⟩) fa;rw[hxi]at hv3;have hF:=BZ hxi hil hso zyG hv1 hv3 (by simp only at htr;omega) hsn;have hgr:=(Store.oL ⟨sl,tr⟩ (i:Int) y).eq;obtain⟨p,hp⟩:∃ p,sl[i]=p:=⟨_,rfl⟩;rw[hp]at kQ;by_cases hs3:y.kind=1/\x.id=y.id
     . rw[if_pos ⟨hkx,hs3.1,hs3.2⟩]at h;obtain⟨rfl,rfl,rfl,rfl⟩:=hno h;clear hF hgr hbd;obtain⟨xk,xn,xi,xh,xl⟩:=x;obtain⟨yk,yn,yi,yh,yl⟩:=y;obtain⟨pb,⟨pk,pn,pi,ph,pl⟩,pm,pg⟩:=p;simp only[Ty.dx,Ty.gz]at hkx hxi hs3;obtain⟨hs4,hs5⟩:=hs3;subst hkx hs4 hs5 hxi;simp[mR]at kQ kD;simp [hE,aH,hZ,dW,hso,hao,mM,e2,hna,hnb,hW,h6,ae,jg,hwb,nT,kQ,kD,p8,rE];exact .inl (aj.keep rfl rfl (by simp) (by simp) (by simp))
     . rw [if_neg (by rintro ⟨_,h2,h3⟩;exact hs3 ⟨h2,h3⟩),if_pos fa,if_neg fb,hxi]at h;have hj1:=(Prod.mk.inj h).1;have hj2:=(Prod.mk.inj (Prod.mk.inj h).2).1;have JE:=(Prod.mk.inj (Prod.mk.inj h).2).2;rw[JE]at hF;rw[hj2]at hF;simp only[List.drop_left]at hF;subst hj1;clear h JE hj2 hgr hbd;obtain⟨xk,xn,xi,xh,xl⟩:=x;obtain⟨yk,yn,yi,yh,yl⟩:=y;obtain⟨pb,⟨pk,pn,pi,ph,pl⟩,pm,pg⟩:=p;simp only[Ty.dx,Ty.gz]at hkx hxi hs3;subst hkx hxi;simp[mR]at kQ kD;simp at hF;by_cases hy1:yk=1
       . have hs4:¬ (i:Int)=yi:=fun e=>hs3 ⟨hy1,e⟩
         subst hy1;rcases ex with _|⟨c,ex⟩
         . simp [hE,aH,hZ,dW,hso,hao,mM,e2,hna,hnb,hW,h6,ae,jg,hwb,nT,kQ,kD,hs4,p8,rE,hB,hF];exact .inl (aj.keep rfl rfl (by simp) (by simp) (by simp))
         . obtain⟨tr2,d9⟩:∃ tr2,tr++c::ex=tr2:=⟨_,rfl⟩;simp [d9,hE,aH,hZ,dW,hso,hao,mM,e2,hna,hnb,hW,h6,ae,jg,hwb,nT,kQ,kD,hs4,p8,rE,hB,hF];exact .inl (aj.Qf (by simp) (by simp) (by simp) (by simp) (by simp<;>(intro x hx;first|omega|exact⟨.inl hx,by omega⟩)))
       . skip
         rcases ex with _|⟨c,ex⟩
         . simp [hE,aH,hZ,dW,hso,hao,mM,e2,hna,hnb,hW,h6,ae,jg,hwb,nT,kQ,kD,hy1,p8,rE,hB,hF];exact .inl (aj.keep rfl rfl (by simp) (by simp) (by simp))
         . obtain⟨tr2,d9⟩:∃ tr2,tr++c::ex=tr2:=⟨_,rfl⟩;simp [d9,hE,aH,hZ,dW,hso,hao,mM,e2,hna,hnb,hW,h6,ae,jg,hwb,nT,kQ,kD,hy1,p8,rE,hB,hF];exact .inl (aj.Qf (by simp) (by simp) (by simp) (by simp) (by simp<;>(intro x hx;first|omega|exact⟨.inl hx,by omega⟩)))
 . rw [if_neg fa]at kQ;by_cases fb:Store.iR ⟨sl,tr⟩ y=true
   . obtain⟨Hm,j,hyj,hjl,hsy⟩:=Store.uQ fb;rw[if_pos fb,hsy]at kD;obtain⟨hv1,hv2,hv3⟩:=hbd y x (.inr ⟨rfl,rfl⟩) fb;rw[hyj]at hv3;have hF:=BZ hyj hjl hso hxo hv1 hv3 (by simp only at htr;omega) hsn;obtain⟨p,hp⟩:∃ p,sl[j]=p:=⟨_,rfl⟩;rw[hp]at kD;by_cases hs3:x.kind=1/\x.id=y.id
     . rw[if_pos ⟨hs3.1,Hm,hs3.2⟩]at h;obtain⟨rfl,rfl,rfl,rfl⟩:=hno h;clear hF hbd;obtain⟨xk,xn,xi,xh,xl⟩:=x;obtain⟨yk,yn,yi,yh,yl⟩:=y;obtain⟨pb,⟨pk,pn,pi,ph,pl⟩,pm,pg⟩:=p;simp only[Ty.dx,Ty.gz]at Hm hyj hs3;obtain⟨hs4,hs5⟩:=hs3;subst Hm hs4 hs5 hyj;simp[mR]at kQ kD;simp [hE,aH,hZ,dW,hso,hao,mM,e2,hna,hnb,hW,h6,ae,jg,hwb,nT,kQ,kD,p8,rE];exact .inl (aj.keep rfl rfl (by simp) (by simp) (by simp))
     . rw [if_neg (by rintro ⟨h1,_,h3⟩;exact hs3 ⟨h1,h3⟩),if_neg fa,if_pos fb,hyj]at h;have hj1:=(Prod.mk.inj h).1;have hj2:=(Prod.mk.inj (Prod.mk.inj h).2).1;have JE:=(Prod.mk.inj (Prod.mk.inj h).2).2;rw[JE]at hF;rw[hj2]at hF;simp only[List.drop_left]at hF;subst hj1;clear h JE hj2 hbd;obtain⟨xk,xn,xi,xh,xl⟩:=x;obtain⟨yk,yn,yi,yh,yl⟩:=y;obtain⟨pb,⟨pk,pn,pi,ph,pl⟩,pm,pg⟩:=p;simp only[Ty.dx,Ty.gz]at Hm hyj hs3;subst Hm hyj;simp[mR]at kQ kD;simp at hF;by_cases hx1:xk=1
       . have hs4:¬ xi=(j:Int):=fun e=>hs3 ⟨hx1,e⟩
         subst hx1;rcases ex with _|⟨c,ex⟩
         . simp [hE,aH,hZ,dW,hso,hao,mM,e2,hna,hnb,hW,h6,ae,jg,hwb,nT,kQ,kD,hs4,p8,rE,hB,hF];exact .inl (aj.keep rfl rfl (by simp) (by simp) (by simp))
         . obtain⟨tr2,d9⟩:∃ tr2,tr++c::ex=tr2:=⟨_,rfl⟩;simp [d9,hE,aH,hZ,dW,hso,hao,mM,e2,hna,hnb,hW,h6,ae,jg,hwb,nT,kQ,kD,hs4,p8,rE,hB,hF];exact .inl (aj.Qf (by simp) (by simp) (by simp) (by simp) (by simp<;>(intro x hx;first|omega|exact⟨.inl hx,by omega⟩)))
       . skip
         rcases ex with _|⟨c,ex⟩
         . simp [hE,aH,hZ,dW,hso,hao,mM,e2,hna,hnb,hW,h6,ae,jg,hwb,nT,kQ,kD,hx1,p8,rE,hB,hF];exact .inl (aj.keep rfl rfl (by simp) (by simp) (by simp))
         . obtain⟨tr2,d9⟩:∃ tr2,tr++c::ex=tr2:=⟨_,rfl⟩;simp [d9,hE,aH,hZ,dW,hso,hao,mM,e2,hna,hnb,hW,h6,ae,jg,hwb,nT,kQ,kD,hx1,p8,rE,hB,hF];exact .inl (aj.Qf (by simp) (by simp) (by simp) (by simp) (by simp<;>(intro x hx;first|omega|exact⟨.inl hx,by omega⟩)))
   . rw [if_neg fb]at kD;simp[mR]at kQ kD;clear hbd;obtain⟨xk,xn,xi,xh,xl⟩:=x;obtain⟨yk,yn,yi,yh,yl⟩:=y;simp only[Ty.dx,Ty.gz,Ty.cZ]at h hxl;rw[if_neg fa,if_neg fb]at h;simp at kQ kD;by_cases h1:xk=yk
     . subst h1;by_cases hn:xn=yn
       . subst hn;by_cases hi:xi=yi
         . subst hi;by_cases hv:xk=1
           . subst hv;rw[if_pos ⟨rfl,rfl,rfl⟩]at h;obtain⟨rfl,rfl,rfl,rfl⟩:=hno h;simp [hE,aH,hZ,dW,hso,hao,mM,e2,hna,hnb,hW,h6,ae,jg,hwb,nT,kQ,kD,p8,rE];exact .inl (aj.keep rfl rfl (by simp) (by simp) (by simp))
           . rw [if_neg (fun hh=>hv hh.1)]at h;by_cases hh:xh=yh
             . subst hh;by_cases hl:xl.length=yl.length
               . rw[if_neg (by unfold Store.clash;simp[hl])]at h;have hj1:=(Prod.mk.inj h).1;have hj2:=(Prod.mk.inj (Prod.mk.inj h).2).1;have JE:=(Prod.mk.inj (Prod.mk.inj h).2).2;obtain⟨zLl,zLk⟩:=Store.mk.inj JE;have zLj:ex=[]:=by simpa using zLk.symm
                 replace hj1:l=vB xl yl:=hj1.symm;subst hj1 hj2 zLl zLj;have hzl:=uw hl;have ht:List.take xl.length (List.map aF (vB xl yl))=List.map aF (vB xl yl):=List.take_of_length_le (by rw[List.length_map,hzl];exact Nat.le_refl _);have r1:xl.length*128<=1048576:=by omega
                 have r2:xl.length*10<=1048576:=by omega
                 have hl':yl.length=xl.length:=hl.symm;simp [hE,aH,hZ,dW,hso,hao,mM,e2,hna,hnb,hW,h6,ae,jg,hwb,nT,kQ,kD,p8,rE,hv,hl',r1,r2,-List.map_replicate];refine Ct hρ hE hcon (sl:=sl) (tr:=tr) (xk:=xk) (xn:=xn) (xi:=xi) (xh:=xh) (xl:=xl) (yk:=xk) (yn:=xn) (yi:=xi) (yh:=xh) (yl:=yl) hl (by omega) rfl rfl (Less.auto (by simp[aH]) (by simp[aH,wI,YH]) (by simp[aH]) (by simp[aH]<;>(intro x hx;first|omega|exact⟨.inl hx,by omega⟩))) ?_;simp [hE,aH,wI];exact .inr (xY.keep rfl rfl (by simp[gV,hzl,ht]) (by simp[ownB]))
               . have hl2:¬ (xl.length:Int)=yl.length:=by omega
                 rw[if_pos (by unfold Store.clash;simp[hl])]at h;obtain⟨rfl,rfl,rfl,rfl⟩:=hno h;simp [hE,aH,hZ,dW,hso,hao,mM,e2,hna,hnb,hW,h6,ae,jg,hwb,nT,kQ,kD,p8,rE,hv,hl2];exact .inl (aj.keep rfl rfl (by simp) (by simp) (by simp))
             . rw[if_pos (by unfold Store.clash;simp[hh])]at h;obtain⟨rfl,rfl,rfl,rfl⟩:=hno h;simp [hE,aH,hZ,dW,hso,hao,mM,e2,hna,hnb,hW,h6,ae,jg,hwb,nT,kQ,kD,p8,rE,hv,hh];exact .inl (aj.keep rfl rfl (by simp) (by simp) (by simp))
         . rw[if_neg (fun hh=>hi hh.2.2),if_pos (by unfold Store.clash;simp[hi])]at h;obtain⟨rfl,rfl,rfl,rfl⟩:=hno h;by_cases hv:xk=1
           . subst hv;simp [hE,aH,hZ,dW,hso,hao,mM,e2,hna,hnb,hW,h6,ae,jg,hwb,nT,kQ,kD,p8,rE,hi];exact .inl (aj.keep rfl rfl (by simp) (by simp) (by simp))
           . simp [hE,aH,hZ,dW,hso,hao,mM,e2,hna,hnb,hW,h6,ae,jg,hwb,nT,kQ,kD,p8,rE,hi,hv];exact .inl (aj.keep rfl rfl (by simp) (by simp) (by simp))
       . have hcl:Store.clash (.mk xk xn xi xh xl) (.mk xk yn yi yh yl):=.inr (.inl hn);by_cases hv:xk=1/\xi=yi
         . rw[if_pos ⟨hv.1,hv.1,hv.2⟩]at h;obtain⟨rfl,rfl,rfl,rfl⟩:=hno h;obtain⟨hv1,hv2⟩:=hv;subst hv1 hv2;simp [hE,aH,hZ,dW,hso,hao,mM,e2,hna,hnb,hW,h6,ae,jg,hwb,nT,kQ,kD,p8,rE];exact .inl (aj.keep rfl rfl (by simp) (by simp) (by simp))
         . rw[if_neg (fun hh=>hv ⟨hh.1,hh.2.2⟩),if_pos hcl]at h;obtain⟨rfl,rfl,rfl,rfl⟩:=hno h;by_cases hv1:xk=1
           . have hi:¬ xi=yi:=fun e=>hv ⟨hv1,e⟩
             subst hv1;simp [hE,aH,hZ,dW,hso,hao,mM,e2,hna,hnb,hW,h6,ae,jg,hwb,nT,kQ,kD,p8,rE,hn,hi];exact .inl (aj.keep rfl rfl (by simp) (by simp) (by simp))
           . simp [hE,aH,hZ,dW,hso,hao,mM,e2,hna,hnb,hW,h6,ae,jg,hwb,nT,kQ,kD,p8,rE,hn,hv1];exact .inl (aj.keep rfl rfl (by simp) (by simp) (by simp))
     . have hcl:Store.clash (.mk xk xn xi xh xl) (.mk yk yn yi yh yl):=.inl h1;rw[if_neg (fun hh=>h1 (hh.1.trans hh.2.1.symm)),if_pos hcl]at h;obtain⟨rfl,rfl,rfl,rfl⟩:=hno h;by_cases hv:xk=1
       . subst hv;have hv2:¬ yk=1:=fun e=>h1 e.symm
         simp [hE,aH,hZ,dW,hso,hao,mM,e2,hna,hnb,hW,h6,ae,jg,hwb,nT,kQ,kD,p8,rE,h1,hv2];exact .inl (aj.keep rfl rfl (by simp) (by simp) (by simp))
       . simp [hE,aH,hZ,dW,hso,hao,mM,e2,hna,hnb,hW,h6,ae,jg,hwb,nT,kQ,kD,p8,rE,h1,hv];exact .inl (aj.keep rfl rfl (by simp) (by simp) (by simp))
end
end
end Go.Proofs.YtocdkgjpdnamlaaGreat
