import Derived.Test.YtfgmnebfhemnpaaGreatLX9
import Derived.Test.YtfgmnebfhemnpaaGreatJPy
set_option linter.all false
noncomputable section
/- The program's unification: a pair of types. -/
namespace Go.Proofs.YtfgmnebfhemnpaaGreat
open Go.J
open Go.J.Enc (enc)
set_option maxRecDepth 100000
set_option maxHeartbeats 4000000
section
variable {ρ:Nat->Value}(hρ:J.Good ρ)
include hρ
section
variable {E:Env}(hE:E.P=Tryz.prog)(hcon:ConsOk ρ E)
include hE hcon
theorem zgz{sl:List Slot}{tr:List Change}{xk xi xh yk yi yh:Int}{xn yn:List Nat}{xl yl:List Ty}(hl:xl.length=yl.length)(hll:xl.length<=1000000){k sz:Nat}(hk:k=3)(hsz:sz=164){T:PT V}{hs:HS}{Q:Ex->PT V->HS->Prop}
 (hT:Less k T hs (mkP [(12,.own 6 0 0 xl.length (some xl.length)),(6,.ptr 4 0 0),(7,.ptr 5 0 0),(144,.int .i64 (xl.length:Int)),(145,.int .i64 ((0:Nat):Int))]) { H:=mkP (zP sl tr none++[(4,.arr 5 0 [[.int .i64 xk,.str xn,.int .i64 xi,.int .i64 xh,.sl (xl.map zw) false]] true false false),(5,.arr 5 0 [[.int .i64 yk,.str yn,.int .i64 yi,.int .i64 yh,.sl (yl.map zw) false]] true false false)]++[(6,zkx [] xl.length)]),n:=8,log:=[] })
 (hQ:Q (.exit 1) (mkP [(12,.own 6 0 0 xl.length (some xl.length))]) { H:=mkP (zP sl tr none++[(6,zkx (zjz xl yl) 0)]),n:=8,log:=[] }) :
 Ls ρ E k sz (.loop zhL) T hs Q:=by
 subst hk hsz
 refine lpi hρ hE hcon xl.length (nn:=8) (fun i (_:Unit)=>[(12,.own 6 0 0 xl.length (some xl.length)),(6,.ptr 4 0 0),(7,.ptr 5 0 0),(144,.int .i64 (xl.length:Int)),(145,.int .i64 (i:Int))])
  (fun i _=>zP sl tr none++[(4,.arr 5 0 [[.int .i64 xk,.str xn,.int .i64 xi,.int .i64 xh,.sl (xl.map zw) false]] true false false),(5,.arr 5 0 [[.int .i64 yk,.str yn,.int .i64 yi,.int .i64 yh,.sl (yl.map zw) false]] true false false)]++[(6,zkx ((zjz xl yl).take i) (xl.length-i))]) (fun _ _=>True) () (by simpa using hT) trivial ?_ ?_
 . intro _ _ K;rw[List.take_of_length_le (by rw[zes hl];exact Nat.le_refl _),Nat.sub_self];simp [zhL,hE,zP,zkx];refine LessQ.mk (Less.auto ?_ ?_ ?_ ?_) hQ
   . simp[zP]
   . simp[zP,zo,zf,zkx]
   . simp[zP]
   . simp[zP]<;>(intro x hx;first|omega|exact⟨.inl hx,by omega⟩)
 . intro i _ hi _ K hK;have hi':(i:Int)<xl.length:=by omega
   have hi2:i<yl.length:=by omega
   have hi3:(i:Int)<yl.length:=by omega
   have hw:IntKind.i64.wrap ((i:Int)+1)=((i+1:Nat):Int):=zJ (by omega);have hm5:(i*5) / 5=i:=by omega
   have hm6:(i*5) % 5=0:=by omega
   have hm7:(i*10) / 10=i:=by omega
   have hm8:(i*10) % 10=0:=by omega
   have hnew:=hK () trivial;have hLi:i=((zjz xl yl).take i).length:=by rw[List.length_take,zes hl];omega
   obtain⟨n,hn⟩:∃ n,xl.length-i=n+1:=⟨xl.length-i-1,by omega⟩;have hn2:xl.length-(i+1)=n:=by omega
   have t1:=znK (n:=n) hLi;have t2:=zqQ (n:=n) (y:=⟨xl[i],yl[i]⟩) hLi;rw[zkz hi hi2,hn2]at hnew;rw[hn];generalize (zjz xl yl).take i=L at t1 t2 hnew hLi;obtain⟨u,hu⟩:∃ u,xl[i]=u:=⟨_,rfl⟩;obtain⟨v,hv⟩:∃ v,yl[i]=v:=⟨_,rfl⟩;rw[hu,hv]at t2 hnew;obtain⟨uk,un,ui,uh,ul⟩:=u;obtain⟨vk,vn,vi,vh,vl⟩:=v;simp only[zx,zeq,Ty.kind_mk,Ty.name_mk,Ty.id_mk,Ty.home_mk,Ty.args_mk]at t1 t2;simp [zhL,hE,zP,zkx,zeq,hi,hi',hi2,hi3,hu,hv,hm5,hm6,hm7,hm8,hw,t1,t2,-Int.natCast_add,-List.map_append];exact hnew _ _ (Less.auto (by simp[zP,-Int.natCast_add]) (by simp[zP,zo,zf,zkx,zeq]) (by simp[zP]) (by simp[zP]<;>(intro x hx;first|omega|exact⟨.inl hx,by omega⟩)))
theorem zj5 {d:Nat} (hZ:E.con 44=za7) (hW:E.con 67=rdE (usM zk2)) (hSl:E.con 73=rdT (uwM zg4)) (hJ:E.con 74=zaT (uwM zl2)) (hB:E.con 75=zaT (uwM (zmn d))) {sl:List Slot} {tr:List Change} {a b:Ty} (hok:Store.PairOk d ⟨sl,tr⟩ a b) {l:List Equation} {e:Int} {sl':List Slot} {ex:List Change} (h:Store.pairP ⟨sl,tr⟩ a b=(l,e,⟨sl',tr++ex⟩)) :
 Wp ρ E 3 164 zJs ((PT.leaf.set 0 (.ptr 0 0 0)).set 1 (enc (⟨a,b⟩:Equation))) { H:=mkP (zP sl tr none),n:=3,log:=[] } (J.Leaves E.P Tryz.f57 fun v hs=>GivesL 3 (.tuple [enc l,.int .i64 e]) (zP sl' (tr++ex) (gN none ex.length)) v hs\/GivesP 3 (.tuple [enc l,.int .i64 e]) (zP sl' (tr++ex) (gN none ex.length)) v hs):=by
 obtain⟨hso,hao,hbo,htr,hbd⟩:=hok;have e2:(max (200:Int) 0).toNat=200:=rfl;have hsn:sl.length<=1000:=hso.1;have h6:sl.length<=1000000:=by omega
 have hno:∀ {n:Int},(([]:List Equation),n,(⟨sl,tr⟩:Store))=(l,e,⟨sl',tr++ex⟩)->l=[]/\e=n/\sl=sl'/\ex=[]:=by
  intro n hh;obtain⟨h1,h2⟩:=Prod.mk.inj hh;obtain⟨h3,h4⟩:=Prod.mk.inj h2;obtain⟨h5,h6⟩:=Store.mk.inj h4;have h7:ex=[]:=by simpa using h6
  exact⟨h1.symm,h3.symm,h5,h7⟩
 unfold Store.pairP at h;obtain⟨na,ena⟩:∃ n,sz (Store.w ⟨sl,tr⟩) a 200=n:=⟨_,rfl⟩;obtain⟨nb,enb⟩:∃ n,sz (Store.w ⟨sl,tr⟩) b 200=n:=⟨_,rfl⟩;have hfa:na<=200->∃ r,Rz (Store.w ⟨sl,tr⟩) a r/\r.size<=200:=fun hn=>sz_fits.1 (by rw[ena];exact hn)
 rw[ena,enb]at h;obtain⟨x,hwa⟩:∃ x,Store.w ⟨sl,tr⟩ a=x:=⟨_,rfl⟩;obtain⟨y,hwb⟩:∃ y,Store.w ⟨sl,tr⟩ b=y:=⟨_,rfl⟩;rw[hwa,hwb]at h hbd;have hxo:x.ok=true:=hwa ▸ Store.walkN_ok hso _ hao;have hyo:y.ok=true:=hwb ▸ Store.walkN_ok hso _ hbo
 have hxl:na<=200->x.args.length<=200:=by
  intro hn;obtain⟨r,hr,hrs⟩:=hfa hn;obtain⟨m,hm,hm2⟩:=Rz_iff.1 hr;rw[hwa]at hm;have h1:=hm.sizes_pos;have h2:=zv5 m;have h3:r.args=m:=by rw[hm2];rfl
  have h4:=Ty.size_eq r;rw[h3]at h4;omega
 clear hfa;have hUa:=zev sl tr x;have hUb:=zev sl tr y;obtain⟨ak,an,ai,ah,al⟩:=a;obtain⟨bk,bn,bi',bh,bl⟩:=b;by_cases c0:200<na
 . have hna:(200:Int)<(na:Int):=by omega
   have hna2:200<na:=c0;rw[if_pos (.inl c0)]at h;obtain⟨rfl,rfl,rfl,rfl⟩:=hno h;simp [hE,zP,hZ,za7,hso,hao,hbo,e2,hna,hna2,ena];exact .inl (GivesL.keep rfl rfl (by simp) (by simp) (by simp[zo,zf]))
 have hna:¬ (200:Int)<(na:Int):=by omega
 have hna2:¬ 200<na:=c0;by_cases c1:200<nb
 . have hnb:(200:Int)<(nb:Int):=by omega
   have hnb2:200<nb:=c1;rw[if_pos (.inr c1)]at h;obtain⟨rfl,rfl,rfl,rfl⟩:=hno h;simp [hE,zP,hZ,za7,hso,hao,hbo,e2,hna,hna2,ena,enb,hnb,hnb2];exact .inl (GivesL.keep rfl rfl (by simp) (by simp) (by simp[zo,zf]))
 have hnb:¬ (200:Int)<(nb:Int):=by omega
 have hnb2:¬ 200<nb:=c1;rw[if_neg (by rintro (h|h)<;>omega)]at h;replace hxl:=hxl (by omega);by_cases fa:Store.freeS ⟨sl,tr⟩ x=true
 . obtain ⟨hkx,i,hxi,hil,hsx⟩:=Store.freeS_at fa;rw[if_pos fa,hsx]at hUa;by_cases fb:Store.freeS ⟨sl,tr⟩ y=true
   . obtain⟨hky,j,hyj,hjl,hsy⟩:=Store.freeS_at fb;rw[if_pos fb,hsy]at hUb;by_cases hij:i=j
     . rw[if_pos ⟨hkx,hky,by rw[hxi,hyj,hij]⟩]at h;obtain⟨rfl,rfl,rfl,rfl⟩:=hno h;obtain⟨p,hp⟩:∃ p,sl[i]=p:=⟨_,rfl⟩;obtain⟨q,hq⟩:∃ q,sl[j]=q:=⟨_,rfl⟩;rw[hp]at hUa;rw[hq]at hUb;obtain⟨xk,xn,xi,xh,xl⟩:=x;obtain⟨yk,yn,yi,yh,yl⟩:=y;obtain⟨pb,⟨pk,pn,pi,ph,pl⟩,pm,pg⟩:=p;obtain⟨qb,⟨qk,qn,qi,qh,ql⟩,qm,qg⟩:=q;simp only[Ty.kind_mk,Ty.id_mk]at hkx hky hxi hyj;subst hkx hky hxi hyj hij;simp at hUa hUb;simp [hE,zP,hZ,za7,hso,hao,hbo,e2,hna,hna2,hnb,hnb2,hW,h6,hsn,vacant_eq,hwa,hwb,hSl,hUa,hUb,ena,enb];exact .inl (GivesL.keep rfl rfl (by simp) (by simp) (by simp[zo,zf]))
     . rw[if_neg (by rintro ⟨_,_,h3⟩;rw[hxi,hyj]at h3;omega),if_pos fa,if_pos fb]at h;have hj1:=(Prod.mk.inj h).1;have hj2:=(Prod.mk.inj (Prod.mk.inj h).2).1;have hj3:=(Prod.mk.inj (Prod.mk.inj h).2).2;subst hj1 hj2;have hij2:¬ (i:Int)=j:=by omega
       have hF:=zol hxi hyj hil hjl hij (by simp only at htr;omega) hsn hj3;clear h hj3 hbd;obtain⟨p,hp⟩:∃ p,sl[i]=p:=⟨_,rfl⟩;obtain⟨q,hq⟩:∃ q,sl[j]=q:=⟨_,rfl⟩;rw[hp]at hUa;rw[hq]at hUb;obtain⟨xk,xn,xi,xh,xl⟩:=x;obtain⟨yk,yn,yi,yh,yl⟩:=y;obtain⟨pb,⟨pk,pn,pi,ph,pl⟩,pm,pg⟩:=p;obtain⟨qb,⟨qk,qn,qi,qh,ql⟩,qm,qg⟩:=q;simp only[Ty.kind_mk,Ty.id_mk]at hkx hky hxi hyj;subst hkx hky hxi hyj;simp at hUa hUb hF;rcases ex with _|⟨c,ex⟩
       . simp [hE,zP,hZ,za7,hso,hao,hbo,e2,hna,hna2,hnb,hnb2,hW,h6,hsn,vacant_eq,hwa,hwb,hSl,hUa,hUb,hij,hij2,ena,enb,hJ,hF];exact .inl (GivesL.keep rfl rfl (by simp) (by simp) (by simp[zo,zf]))
       . obtain⟨tr2,htr2⟩:∃ tr2,tr++c::ex=tr2:=⟨_,rfl⟩;simp [htr2,hE,zP,hZ,za7,hso,hao,hbo,e2,hna,hna2,hnb,hnb2,hW,h6,hsn,vacant_eq,hwa,hwb,hSl,hUa,hUb,hij,hij2,ena,enb,hJ,hF];exact .inl (GivesL.autoN (by simp) (by simp) (by simp[zo,zf]) (by simp) (by simp<;>(intro x hx;first|omega|exact⟨.inl hx,by omega⟩)))
   . rw [if_neg fb]at hUb;obtain⟨hv1,hv2,hv3⟩:=hbd x y (.inl ⟨rfl,rfl⟩) fa;rw[hxi]at hv3;have hF:=zgM hxi hil hso hyo hv1 hv3 (by simp only at htr;omega) hsn;have hgr:=(Store.grow_bind ⟨sl,tr⟩ (i:Int) y).eq;obtain⟨p,hp⟩:∃ p,sl[i]=p:=⟨_,rfl⟩;rw[hp]at hUa;by_cases hs3:y.kind=1/\x.id=y.id
     . rw[if_pos ⟨hkx,hs3.1,hs3.2⟩]at h;obtain⟨rfl,rfl,rfl,rfl⟩:=hno h;clear hF hgr hbd;obtain⟨xk,xn,xi,xh,xl⟩:=x;obtain⟨yk,yn,yi,yh,yl⟩:=y;obtain⟨pb,⟨pk,pn,pi,ph,pl⟩,pm,pg⟩:=p;simp only[Ty.kind_mk,Ty.id_mk]at hkx hxi hs3;obtain⟨hs4,hs5⟩:=hs3;subst hkx hs4 hs5 hxi;simp[zdi]at hUa hUb;simp [hE,zP,hZ,za7,hso,hao,hbo,e2,hna,hna2,hnb,hnb2,hW,h6,hsn,vacant_eq,hwa,hwb,hSl,hUa,hUb,ena,enb];exact .inl (GivesL.keep rfl rfl (by simp) (by simp) (by simp[zo,zf]))
     . rw [if_neg (by rintro ⟨_,h2,h3⟩;exact hs3 ⟨h2,h3⟩),if_pos fa,if_neg fb,hxi]at h;have hj1:=(Prod.mk.inj h).1;have hj2:=(Prod.mk.inj (Prod.mk.inj h).2).1;have hj3:=(Prod.mk.inj (Prod.mk.inj h).2).2;rw[hj3]at hF;rw[hj2]at hF;simp only[List.drop_left]at hF;subst hj1;clear h hj3 hj2 hgr hbd;obtain⟨xk,xn,xi,xh,xl⟩:=x;obtain⟨yk,yn,yi,yh,yl⟩:=y;obtain⟨pb,⟨pk,pn,pi,ph,pl⟩,pm,pg⟩:=p;simp only[Ty.kind_mk,Ty.id_mk]at hkx hxi hs3;subst hkx hxi;simp[zdi]at hUa hUb;simp at hF;by_cases hy1:yk=1
       . have hs4:¬ (i:Int)=yi:=fun e=>hs3 ⟨hy1,e⟩
         subst hy1;rcases ex with _|⟨c,ex⟩
         . simp [hE,zP,hZ,za7,hso,hao,hbo,e2,hna,hna2,hnb,hnb2,hW,h6,hsn,vacant_eq,hwa,hwb,hSl,hUa,hUb,hs4,ena,enb,hB,hF];exact .inl (GivesL.keep rfl rfl (by simp) (by simp) (by simp[zo,zf]))
         . obtain⟨tr2,htr2⟩:∃ tr2,tr++c::ex=tr2:=⟨_,rfl⟩;simp [htr2,hE,zP,hZ,za7,hso,hao,hbo,e2,hna,hna2,hnb,hnb2,hW,h6,hsn,vacant_eq,hwa,hwb,hSl,hUa,hUb,hs4,ena,enb,hB,hF];exact .inl (GivesL.autoN (by simp) (by simp) (by simp[zo,zf]) (by simp) (by simp<;>(intro x hx;first|omega|exact⟨.inl hx,by omega⟩)))
       . skip
         rcases ex with _|⟨c,ex⟩
         . simp [hE,zP,hZ,za7,hso,hao,hbo,e2,hna,hna2,hnb,hnb2,hW,h6,hsn,vacant_eq,hwa,hwb,hSl,hUa,hUb,hy1,ena,enb,hB,hF];exact .inl (GivesL.keep rfl rfl (by simp) (by simp) (by simp[zo,zf]))
         . obtain⟨tr2,htr2⟩:∃ tr2,tr++c::ex=tr2:=⟨_,rfl⟩;simp [htr2,hE,zP,hZ,za7,hso,hao,hbo,e2,hna,hna2,hnb,hnb2,hW,h6,hsn,vacant_eq,hwa,hwb,hSl,hUa,hUb,hy1,ena,enb,hB,hF];exact .inl (GivesL.autoN (by simp) (by simp) (by simp[zo,zf]) (by simp) (by simp<;>(intro x hx;first|omega|exact⟨.inl hx,by omega⟩)))
 . rw [if_neg fa]at hUa;by_cases fb:Store.freeS ⟨sl,tr⟩ y=true
   . obtain⟨hky,j,hyj,hjl,hsy⟩:=Store.freeS_at fb;rw[if_pos fb,hsy]at hUb;obtain⟨hv1,hv2,hv3⟩:=hbd y x (.inr ⟨rfl,rfl⟩) fb;rw[hyj]at hv3;have hF:=zgM hyj hjl hso hxo hv1 hv3 (by simp only at htr;omega) hsn;obtain⟨p,hp⟩:∃ p,sl[j]=p:=⟨_,rfl⟩;rw[hp]at hUb;by_cases hs3:x.kind=1/\x.id=y.id
     . rw[if_pos ⟨hs3.1,hky,hs3.2⟩]at h;obtain⟨rfl,rfl,rfl,rfl⟩:=hno h;clear hF hbd;obtain⟨xk,xn,xi,xh,xl⟩:=x;obtain⟨yk,yn,yi,yh,yl⟩:=y;obtain⟨pb,⟨pk,pn,pi,ph,pl⟩,pm,pg⟩:=p;simp only[Ty.kind_mk,Ty.id_mk]at hky hyj hs3;obtain⟨hs4,hs5⟩:=hs3;subst hky hs4 hs5 hyj;simp[zdi]at hUa hUb;simp [hE,zP,hZ,za7,hso,hao,hbo,e2,hna,hna2,hnb,hnb2,hW,h6,hsn,vacant_eq,hwa,hwb,hSl,hUa,hUb,ena,enb];exact .inl (GivesL.keep rfl rfl (by simp) (by simp) (by simp[zo,zf]))
     . rw [if_neg (by rintro ⟨h1,_,h3⟩;exact hs3 ⟨h1,h3⟩),if_neg fa,if_pos fb,hyj]at h;have hj1:=(Prod.mk.inj h).1;have hj2:=(Prod.mk.inj (Prod.mk.inj h).2).1;have hj3:=(Prod.mk.inj (Prod.mk.inj h).2).2;rw[hj3]at hF;rw[hj2]at hF;simp only[List.drop_left]at hF;subst hj1;clear h hj3 hj2 hbd;obtain⟨xk,xn,xi,xh,xl⟩:=x;obtain⟨yk,yn,yi,yh,yl⟩:=y;obtain⟨pb,⟨pk,pn,pi,ph,pl⟩,pm,pg⟩:=p;simp only[Ty.kind_mk,Ty.id_mk]at hky hyj hs3;subst hky hyj;simp[zdi]at hUa hUb;simp at hF;by_cases hx1:xk=1
       . have hs4:¬ xi=(j:Int):=fun e=>hs3 ⟨hx1,e⟩
         subst hx1;rcases ex with _|⟨c,ex⟩
         . simp [hE,zP,hZ,za7,hso,hao,hbo,e2,hna,hna2,hnb,hnb2,hW,h6,hsn,vacant_eq,hwa,hwb,hSl,hUa,hUb,hs4,ena,enb,hB,hF];exact .inl (GivesL.keep rfl rfl (by simp) (by simp) (by simp[zo,zf]))
         . obtain⟨tr2,htr2⟩:∃ tr2,tr++c::ex=tr2:=⟨_,rfl⟩;simp [htr2,hE,zP,hZ,za7,hso,hao,hbo,e2,hna,hna2,hnb,hnb2,hW,h6,hsn,vacant_eq,hwa,hwb,hSl,hUa,hUb,hs4,ena,enb,hB,hF];exact .inl (GivesL.autoN (by simp) (by simp) (by simp[zo,zf]) (by simp) (by simp<;>(intro x hx;first|omega|exact⟨.inl hx,by omega⟩)))
       . skip
         rcases ex with _|⟨c,ex⟩
         . simp [hE,zP,hZ,za7,hso,hao,hbo,e2,hna,hna2,hnb,hnb2,hW,h6,hsn,vacant_eq,hwa,hwb,hSl,hUa,hUb,hx1,ena,enb,hB,hF];exact .inl (GivesL.keep rfl rfl (by simp) (by simp) (by simp[zo,zf]))
         . obtain⟨tr2,htr2⟩:∃ tr2,tr++c::ex=tr2:=⟨_,rfl⟩;simp [htr2,hE,zP,hZ,za7,hso,hao,hbo,e2,hna,hna2,hnb,hnb2,hW,h6,hsn,vacant_eq,hwa,hwb,hSl,hUa,hUb,hx1,ena,enb,hB,hF];exact .inl (GivesL.autoN (by simp) (by simp) (by simp[zo,zf]) (by simp) (by simp<;>(intro x hx;first|omega|exact⟨.inl hx,by omega⟩)))
   . rw [if_neg fb]at hUb;simp[zdi]at hUa hUb;clear hbd;obtain⟨xk,xn,xi,xh,xl⟩:=x;obtain⟨yk,yn,yi,yh,yl⟩:=y;simp only[Ty.kind_mk,Ty.id_mk,Ty.args_mk]at h hxl;rw[if_neg fa,if_neg fb]at h;simp at hUa hUb;by_cases h1:xk=yk
     . subst h1;by_cases hn:xn=yn
       . subst hn;by_cases hi:xi=yi
         . subst hi;by_cases hv:xk=1
           . subst hv;rw[if_pos ⟨rfl,rfl,rfl⟩]at h;obtain⟨rfl,rfl,rfl,rfl⟩:=hno h;simp [hE,zP,hZ,za7,hso,hao,hbo,e2,hna,hna2,hnb,hnb2,hW,h6,hsn,vacant_eq,hwa,hwb,hSl,hUa,hUb,ena,enb];exact .inl (GivesL.keep rfl rfl (by simp) (by simp) (by simp[zo,zf]))
           . rw [if_neg (fun hh=>hv hh.1)]at h;by_cases hh:xh=yh
             . subst hh;by_cases hl:xl.length=yl.length
               . rw[if_neg (by unfold Store.clash;simp[hl])]at h;have hj1:=(Prod.mk.inj h).1;have hj2:=(Prod.mk.inj (Prod.mk.inj h).2).1;have hj3:=(Prod.mk.inj (Prod.mk.inj h).2).2;obtain⟨hj4,hj5⟩:=Store.mk.inj hj3;have hj6:ex=[]:=by simpa using hj5.symm
                 replace hj1:l=zjz xl yl:=hj1.symm;subst hj1 hj2 hj4 hj6;have hzl:=zes hl;have ht:List.take xl.length (List.map zx (zjz xl yl))=List.map zx (zjz xl yl):=List.take_of_length_le (by rw[List.length_map,hzl];exact Nat.le_refl _);have r1:xl.length*128<=1048576:=by omega
                 have r2:xl.length*10<=1048576:=by omega
                 have hl':yl.length=xl.length:=hl.symm;simp [hE,zP,hZ,za7,hso,hao,hbo,e2,hna,hna2,hnb,hnb2,hW,h6,hsn,vacant_eq,hwa,hwb,hSl,hUa,hUb,ena,enb,hv,hl',r1,r2,-List.map_replicate];refine zgz hρ hE hcon (sl:=sl) (tr:=tr) (xk:=xk) (xn:=xn) (xi:=xi) (xh:=xh) (xl:=xl) (yk:=xk) (yn:=xn) (yi:=xi) (yh:=xh) (yl:=yl) hl (by omega) rfl rfl (Less.auto (by simp[zP]) (by simp[zP,zo,zf,zkx,zeq]) (by simp[zP]) (by simp[zP]<;>(intro x hx;first|omega|exact⟨.inl hx,by omega⟩))) ?_;simp [hE,zP,zkx];exact .inr (GivesP.keep rfl rfl (by simp[zbh,hzl,ht]) (by simp[ownB,zo,zf]))
               . have hl2:¬ (xl.length:Int)=yl.length:=by omega
                 rw[if_pos (by unfold Store.clash;simp[hl])]at h;obtain⟨rfl,rfl,rfl,rfl⟩:=hno h;simp [hE,zP,hZ,za7,hso,hao,hbo,e2,hna,hna2,hnb,hnb2,hW,h6,hsn,vacant_eq,hwa,hwb,hSl,hUa,hUb,ena,enb,hv,hl,hl2];exact .inl (GivesL.keep rfl rfl (by simp) (by simp) (by simp[zo,zf]))
             . rw[if_pos (by unfold Store.clash;simp[hh])]at h;obtain⟨rfl,rfl,rfl,rfl⟩:=hno h;simp [hE,zP,hZ,za7,hso,hao,hbo,e2,hna,hna2,hnb,hnb2,hW,h6,hsn,vacant_eq,hwa,hwb,hSl,hUa,hUb,ena,enb,hv,hh];exact .inl (GivesL.keep rfl rfl (by simp) (by simp) (by simp[zo,zf]))
         . rw[if_neg (fun hh=>hi hh.2.2),if_pos (by unfold Store.clash;simp[hi])]at h;obtain⟨rfl,rfl,rfl,rfl⟩:=hno h;by_cases hv:xk=1
           . subst hv;simp [hE,zP,hZ,za7,hso,hao,hbo,e2,hna,hna2,hnb,hnb2,hW,h6,hsn,vacant_eq,hwa,hwb,hSl,hUa,hUb,ena,enb,hi];exact .inl (GivesL.keep rfl rfl (by simp) (by simp) (by simp[zo,zf]))
           . simp [hE,zP,hZ,za7,hso,hao,hbo,e2,hna,hna2,hnb,hnb2,hW,h6,hsn,vacant_eq,hwa,hwb,hSl,hUa,hUb,ena,enb,hi,hv];exact .inl (GivesL.keep rfl rfl (by simp) (by simp) (by simp[zo,zf]))
       . have hcl:Store.clash (.mk xk xn xi xh xl) (.mk xk yn yi yh yl):=.inr (.inl hn);by_cases hv:xk=1/\xi=yi
         . rw[if_pos ⟨hv.1,hv.1,hv.2⟩]at h;obtain⟨rfl,rfl,rfl,rfl⟩:=hno h;obtain⟨hv1,hv2⟩:=hv;subst hv1 hv2;simp [hE,zP,hZ,za7,hso,hao,hbo,e2,hna,hna2,hnb,hnb2,hW,h6,hsn,vacant_eq,hwa,hwb,hSl,hUa,hUb,ena,enb];exact .inl (GivesL.keep rfl rfl (by simp) (by simp) (by simp[zo,zf]))
         . rw[if_neg (fun hh=>hv ⟨hh.1,hh.2.2⟩),if_pos hcl]at h;obtain⟨rfl,rfl,rfl,rfl⟩:=hno h;by_cases hv1:xk=1
           . have hi:¬ xi=yi:=fun e=>hv ⟨hv1,e⟩
             subst hv1;simp [hE,zP,hZ,za7,hso,hao,hbo,e2,hna,hna2,hnb,hnb2,hW,h6,hsn,vacant_eq,hwa,hwb,hSl,hUa,hUb,ena,enb,hn,hi];exact .inl (GivesL.keep rfl rfl (by simp) (by simp) (by simp[zo,zf]))
           . simp [hE,zP,hZ,za7,hso,hao,hbo,e2,hna,hna2,hnb,hnb2,hW,h6,hsn,vacant_eq,hwa,hwb,hSl,hUa,hUb,ena,enb,hn,hv1];exact .inl (GivesL.keep rfl rfl (by simp) (by simp) (by simp[zo,zf]))
     . have hcl:Store.clash (.mk xk xn xi xh xl) (.mk yk yn yi yh yl):=.inl h1;rw[if_neg (fun hh=>h1 (hh.1.trans hh.2.1.symm)),if_pos hcl]at h;obtain⟨rfl,rfl,rfl,rfl⟩:=hno h;by_cases hv:xk=1
       . subst hv;have hv2:¬ yk=1:=fun e=>h1 e.symm
         simp [hE,zP,hZ,za7,hso,hao,hbo,e2,hna,hna2,hnb,hnb2,hW,h6,hsn,vacant_eq,hwa,hwb,hSl,hUa,hUb,ena,enb,h1,hv2];exact .inl (GivesL.keep rfl rfl (by simp) (by simp) (by simp[zo,zf]))
       . simp [hE,zP,hZ,za7,hso,hao,hbo,e2,hna,hna2,hnb,hnb2,hW,h6,hsn,vacant_eq,hwa,hwb,hSl,hUa,hUb,ena,enb,h1,hv];exact .inl (GivesL.keep rfl rfl (by simp) (by simp) (by simp[zo,zf]))
end
end
end Go.Proofs.YtfgmnebfhemnpaaGreat
