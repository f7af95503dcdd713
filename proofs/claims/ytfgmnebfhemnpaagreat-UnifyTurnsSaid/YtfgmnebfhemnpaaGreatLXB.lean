import Derived.Test.YtfgmnebfhemnpaaGreatLUH0
import Derived.Test.YtfgmnebfhemnpaaGreatJPy
import Derived.Test.YtfgmnebfhemnpaaGreatJL
set_option linter.all false
noncomputable section
/- The program's unification: a pair of types. -/
namespace Go.Proofs.YtfgmnebfhemnpaaGreat
open Go.J
open Go.J.Enc (enc)
set_option maxRecDepth 100000
set_option maxHeartbeats 4000000
section
variable {ρ:Nat->Value}(hρ:J.Good ρ)
include hρ
section
variable {E:Env}(hE:E.P=Tryz.prog)(hcon:ConsOk ρ E)
include hE hcon
theorem zgy{sl:List Slot}{tr:List Change}{g:Nat}{xk xi xh yk yi yh:Int}{xn yn:List Nat}{xl yl:List Ty}(hl:xl.length=yl.length)(hll:xl.length<=1000000){k sz:Nat}(hk:k=4)(hsz:sz=164){T:PT V}{hs:HS}{Q:Ex->PT V->HS->Prop}
 (hT:Less k T hs (mkP [(12,.own 6 0 0 xl.length (some xl.length)),(6,.ptr 4 0 0),(7,.ptr 5 0 0),(144,.int .i64 (xl.length:Int)),(145,.int .i64 ((0:Nat):Int))]) { H:=mkP (zP sl tr (some g)++[(4,.arr 5 0 [[.int .i64 xk,.str xn,.int .i64 xi,.int .i64 xh,.sl (xl.map zw) false]] true false false),(5,.arr 5 0 [[.int .i64 yk,.str yn,.int .i64 yi,.int .i64 yh,.sl (yl.map zw) false]] true false false)]++[(6,zkx [] xl.length)]),n:=8,log:=[] })
 (hQ:Q (.exit 1) (mkP [(12,.own 6 0 0 xl.length (some xl.length))]) { H:=mkP (zP sl tr (some g)++[(6,zkx (zjz xl yl) 0)]),n:=8,log:=[] }) :
 Ls ρ E k sz (.loop zhL) T hs Q:=by
 subst hk hsz
 refine lpi hρ hE hcon xl.length (nn:=8) (fun i (_:Unit)=>[(12,.own 6 0 0 xl.length (some xl.length)),(6,.ptr 4 0 0),(7,.ptr 5 0 0),(144,.int .i64 (xl.length:Int)),(145,.int .i64 (i:Int))])
  (fun i _=>zP sl tr (some g)++[(4,.arr 5 0 [[.int .i64 xk,.str xn,.int .i64 xi,.int .i64 xh,.sl (xl.map zw) false]] true false false),(5,.arr 5 0 [[.int .i64 yk,.str yn,.int .i64 yi,.int .i64 yh,.sl (yl.map zw) false]] true false false)]++[(6,zkx ((zjz xl yl).take i) (xl.length-i))]) (fun _ _=>True) () (by simpa using hT) trivial ?_ ?_
 . intro _ _ K;rw[List.take_of_length_le (by rw[zes hl];exact Nat.le_refl _),Nat.sub_self];simp [zhL,hE,zP,zkx];refine LessQ.mk (Less.auto ?_ ?_ ?_ ?_) hQ
   . simp[zP]
   . simp[zP,zo,zf,zkx]
   . simp[zP]
   . simp[zP]<;>(intro x hx;first|omega|exact⟨.inl hx,by omega⟩)
 . intro i _ hi _ K hK;have hi':(i:Int)<xl.length:=by omega
   have hi2:i<yl.length:=by omega
   have hi3:(i:Int)<yl.length:=by omega
   have hw:IntKind.i64.wrap ((i:Int)+1)=((i+1:Nat):Int):=zJ (by omega);have hm5:(i*5) / 5=i:=by omega
   have hm6:(i*5) % 5=0:=by omega
   have hm7:(i*10) / 10=i:=by omega
   have hm8:(i*10) % 10=0:=by omega
   have hnew:=hK () trivial;have hLi:i=((zjz xl yl).take i).length:=by rw[List.length_take,zes hl];omega
   obtain⟨n,hn⟩:∃ n,xl.length-i=n+1:=⟨xl.length-i-1,by omega⟩;have hn2:xl.length-(i+1)=n:=by omega
   have t1:=znK (n:=n) hLi;have t2:=zqQ (n:=n) (y:=⟨xl[i],yl[i]⟩) hLi;rw[zkz hi hi2,hn2]at hnew;rw[hn];generalize (zjz xl yl).take i=L at t1 t2 hnew hLi;obtain⟨u,hu⟩:∃ u,xl[i]=u:=⟨_,rfl⟩;obtain⟨v,hv⟩:∃ v,yl[i]=v:=⟨_,rfl⟩;rw[hu,hv]at t2 hnew;obtain⟨uk,un,ui,uh,ul⟩:=u;obtain⟨vk,vn,vi,vh,vl⟩:=v;simp only[zx,zeq,Ty.kind_mk,Ty.name_mk,Ty.id_mk,Ty.home_mk,Ty.args_mk]at t1 t2;simp [zhL,hE,zP,zkx,zeq,hi,hi',hi2,hi3,hu,hv,hm5,hm6,hm7,hm8,hw,t1,t2,-Int.natCast_add,-List.map_append];exact hnew _ _ (Less.auto (by simp[zP,-Int.natCast_add]) (by simp[zP,zo,zf,zkx,zeq]) (by simp[zP]) (by simp[zP]<;>(intro x hx;first|omega|exact⟨.inl hx,by omega⟩)))
theorem zj4 {d:Nat} (hZ:E.con 44=za7) (hW:E.con 67=rdE (usM zk2)) (hSl:E.con 73=rdT (uwM zg4)) (hJ:E.con 74=zaT (uwM zl2)) (hB:E.con 75=zaT (uwM (zmn d))) {sl:List Slot} {tr:List Change} {g:Nat} {a b:Ty} (hok:Store.PairOk d ⟨sl,tr⟩ a b) {l:List Equation} {e:Int} {sl':List Slot} {ex:List Change} (h:Store.pairP ⟨sl,tr⟩ a b=(l,e,⟨sl',tr++ex⟩)) :
 Wp ρ E 4 164 zJs ((PT.leaf.set 0 (.ptr 0 0 0)).set 1 (enc (⟨a,b⟩:Equation))) { H:=mkP (zP sl tr (some g)),n:=4,log:=[] } (J.Leaves E.P Tryz.f57 fun v hs=>GivesL 4 (.tuple [enc l,.int .i64 e]) (zP sl' (tr++ex) (gN (some g) ex.length)) v hs\/GivesP 4 (.tuple [enc l,.int .i64 e]) (zP sl' (tr++ex) (gN (some g) ex.length)) v hs):=by
 obtain⟨hso,hao,hbo,htr,hbd⟩:=hok;have e2:(max (200:Int) 0).toNat=200:=rfl;have hsn:sl.length<=1000:=hso.1;have h6:sl.length<=1000000:=by omega
 have hno:∀ {n:Int},(([]:List Equation),n,(⟨sl,tr⟩:Store))=(l,e,⟨sl',tr++ex⟩)->l=[]/\e=n/\sl=sl'/\ex=[]:=by
  intro n hh;obtain⟨h1,h2⟩:=Prod.mk.inj hh;obtain⟨h3,h4⟩:=Prod.mk.inj h2;obtain⟨h5,h6⟩:=Store.mk.inj h4;have h7:ex=[]:=by simpa using h6
  exact⟨h1.symm,h3.symm,h5,h7⟩
 unfold Store.pairP at h;obtain⟨na,ena⟩:∃ n,sz (Store.w ⟨sl,tr⟩) a 200=n:=⟨_,rfl⟩;obtain⟨nb,enb⟩:∃ n,sz (Store.w ⟨sl,tr⟩) b 200=n:=⟨_,rfl⟩;have hfa:na<=200->∃ r,Rz (Store.w ⟨sl,tr⟩) a r/\r.size<=200:=fun hn=>sz_fits.1 (by rw[ena];exact hn)
 rw[ena,enb]at h;obtain⟨x,hwa⟩:∃ x,Store.w ⟨sl,tr⟩ a=x:=⟨_,rfl⟩;obtain⟨y,hwb⟩:∃ y,Store.w ⟨sl,tr⟩ b=y:=⟨_,rfl⟩;rw[hwa,hwb]at h hbd;have hxo:x.ok=true:=hwa ▸ Store.walkN_ok hso _ hao;have hyo:y.ok=true:=hwb ▸ Store.walkN_ok hso _ hbo
 have hxl:na<=200->x.args.length<=200:=by
  intro hn;obtain⟨r,hr,hrs⟩:=hfa hn;obtain⟨m,hm,hm2⟩:=Rz_iff.1 hr;rw[hwa]at hm;have h1:=hm.sizes_pos;have h2:=zv5 m;have h3:r.args=m:=by rw[hm2];rfl
  have h4:=Ty.size_eq r;rw[h3]at h4;omega
 clear hfa;have hUa:=zev sl tr x;have hUb:=zev sl tr y;obtain⟨ak,an,ai,ah,al⟩:=a;obtain⟨bk,bn,bi',bh,bl⟩:=b;by_cases c0:200<na
 . have hna:(200:Int)<(na:Int):=by omega
   have hna2:200<na:=c0;rw[if_pos (.inl c0)]at h;obtain⟨rfl,rfl,rfl,rfl⟩:=hno h;simp [hE,zP,hZ,za7,hso,hao,hbo,e2,hna,hna2,ena];exact .inl (GivesL.keep rfl rfl (by simp) (by simp) (by simp[zo,zf]))
 have hna:¬ (200:Int)<(na:Int):=by omega
 have hna2:¬ 200<na:=c0;by_cases c1:200<nb
 . have hnb:(200:Int)<(nb:Int):=by omega
   have hnb2:200<nb:=c1;rw[if_pos (.inr c1)]at h;obtain⟨rfl,rfl,rfl,rfl⟩:=hno h;simp [hE,zP,hZ,za7,hso,hao,hbo,e2,hna,hna2,ena,enb,hnb,hnb2];exact .inl (GivesL.keep rfl rfl (by simp) (by simp) (by simp[zo,zf]))
 have hnb:¬ (200:Int)<(nb:Int):=by omega
 have hnb2:¬ 200<nb:=c1;rw[if_neg (by rintro (h|h)<;>omega)]at h;replace hxl:=hxl (by omega);by_cases fa:Store.freeS ⟨sl,tr⟩ x=true
 . obtain⟨hkx,i,hxi,hil,hsx⟩:=Store.freeS_at fa;rw[if_pos fa,hsx]at hUa;by_cases fb:Store.freeS ⟨sl,tr⟩ y=true
   . obtain⟨hky,j,hyj,hjl,hsy⟩:=Store.freeS_at fb;rw[if_pos fb,hsy]at hUb;by_cases hij:i=j
     . rw[if_pos ⟨hkx,hky,by rw[hxi,hyj,hij]⟩]at h;obtain⟨rfl,rfl,rfl,rfl⟩:=hno h;obtain⟨p,hp⟩:∃ p,sl[i]=p:=⟨_,rfl⟩;obtain⟨q,hq⟩:∃ q,sl[j]=q:=⟨_,rfl⟩;rw[hp]at hUa;rw[hq]at hUb;obtain⟨xk,xn,xi,xh,xl⟩:=x;obtain⟨yk,yn,yi,yh,yl⟩:=y;obtain⟨pb,⟨pk,pn,pi,ph,pl⟩,pm,pg⟩:=p;obtain⟨qb,⟨qk,qn,qi,qh,ql⟩,qm,qg⟩:=q;simp only[Ty.kind_mk,Ty.id_mk]at hkx hky hxi hyj;subst hkx hky hxi hyj hij;simp at hUa hUb;simp [hE,zP,hZ,za7,hso,hao,hbo,e2,hna,hna2,hnb,hnb2,hW,h6,hsn,vacant_eq,hwa,hwb,hSl,hUa,hUb,ena,enb];exact .inl (GivesL.keep rfl rfl (by simp) (by simp) (by simp[zo,zf]))
     . rw[if_neg (by rintro ⟨_,_,h3⟩;rw[hxi,hyj]at h3;omega),if_pos fa,if_pos fb]at h;have hj1:=(Prod.mk.inj h).1;have hj2:=(Prod.mk.inj (Prod.mk.inj h).2).1;have hj3:=(Prod.mk.inj (Prod.mk.inj h).2).2;subst hj1 hj2;have hij2:¬ (i:Int)=j:=by omega
       have hF:=zol hxi hyj hil hjl hij (by simp only at htr;omega) hsn hj3;clear h hj3 hbd;obtain⟨p,hp⟩:∃ p,sl[i]=p:=⟨_,rfl⟩;obtain⟨q,hq⟩:∃ q,sl[j]=q:=⟨_,rfl⟩;rw[hp]at hUa;rw[hq]at hUb;obtain⟨xk,xn,xi,xh,xl⟩:=x;obtain⟨yk,yn,yi,yh,yl⟩:=y;obtain⟨pb,⟨pk,pn,pi,ph,pl⟩,pm,pg⟩:=p;obtain⟨qb,⟨qk,qn,qi,qh,ql⟩,qm,qg⟩:=q;simp only[Ty.kind_mk,Ty.id_mk]at hkx hky hxi hyj;subst hkx hky hxi hyj;simp at hUa hUb hF;obtain⟨tr2,htr2⟩:∃ tr2,tr++ex=tr2:=⟨_,rfl⟩;simp [htr2,hE,zP,hZ,za7,hso,hao,hbo,e2,hna,hna2,hnb,hnb2,hW,h6,hsn,vacant_eq,hwa,hwb,hSl,hUa,hUb,hij,hij2,ena,enb,hJ,hF];exact .inl (GivesL.keep rfl rfl (by simp) (by simp) (by simp[zo,zf]))
   . rw [if_neg fb]at hUb;obtain⟨hv1,hv2,hv3⟩:=hbd x y (.inl ⟨rfl,rfl⟩) fa;rw[hxi]at hv3;have hF:=zgM hxi hil hso hyo hv1 hv3 (by simp only at htr;omega) hsn;have hgr:=(Store.grow_bind ⟨sl,tr⟩ (i:Int) y).eq;obtain⟨p,hp⟩:∃ p,sl[i]=p:=⟨_,rfl⟩;rw[hp]at hUa;by_cases hs3:y.kind=1/\x.id=y.id
     . rw[if_pos ⟨hkx,hs3.1,hs3.2⟩]at h;obtain⟨rfl,rfl,rfl,rfl⟩:=hno h;clear hF hgr hbd;obtain⟨xk,xn,xi,xh,xl⟩:=x;obtain⟨yk,yn,yi,yh,yl⟩:=y;obtain⟨pb,⟨pk,pn,pi,ph,pl⟩,pm,pg⟩:=p;simp only[Ty.kind_mk,Ty.id_mk]at hkx hxi hs3;obtain⟨hs4,hs5⟩:=hs3;subst hkx hs4 hs5 hxi;simp[zdi]at hUa hUb;simp [hE,zP,hZ,za7,hso,hao,hbo,e2,hna,hna2,hnb,hnb2,hW,h6,hsn,vacant_eq,hwa,hwb,hSl,hUa,hUb,ena,enb];exact .inl (GivesL.keep rfl rfl (by simp) (by simp) (by simp[zo,zf]))
     . rw[if_neg (by rintro ⟨_,h2,h3⟩;exact hs3 ⟨h2,h3⟩),if_pos fa,if_neg fb,hxi]at h;have hj1:=(Prod.mk.inj h).1;have hj2:=(Prod.mk.inj (Prod.mk.inj h).2).1;have hj3:=(Prod.mk.inj (Prod.mk.inj h).2).2;rw[hj3]at hF;rw[hj2]at hF;simp only[List.drop_left]at hF;subst hj1;clear h hj3 hj2 hgr hbd;obtain⟨xk,xn,xi,xh,xl⟩:=x;obtain⟨yk,yn,yi,yh,yl⟩:=y;obtain⟨pb,⟨pk,pn,pi,ph,pl⟩,pm,pg⟩:=p;simp only[Ty.kind_mk,Ty.id_mk]at hkx hxi hs3;subst hkx hxi;simp[zdi]at hUa hUb;simp at hF;by_cases hy1:yk=1
       . have hs4:¬ (i:Int)=yi:=fun e=>hs3 ⟨hy1,e⟩
         subst hy1;obtain⟨tr2,htr2⟩:∃ tr2,tr++ex=tr2:=⟨_,rfl⟩;simp [htr2,hE,zP,hZ,za7,hso,hao,hbo,e2,hna,hna2,hnb,hnb2,hW,h6,hsn,vacant_eq,hwa,hwb,hSl,hUa,hUb,hs4,ena,enb,hB,hF];exact .inl (GivesL.keep rfl rfl (by simp) (by simp) (by simp[zo,zf]))
       . skip
         obtain⟨tr2,htr2⟩:∃ tr2,tr++ex=tr2:=⟨_,rfl⟩;simp [htr2,hE,zP,hZ,za7,hso,hao,hbo,e2,hna,hna2,hnb,hnb2,hW,h6,hsn,vacant_eq,hwa,hwb,hSl,hUa,hUb,hy1,ena,enb,hB,hF];exact .inl (GivesL.keep rfl rfl (by simp) (by simp) (by simp[zo,zf]))
 . rw [if_neg fa]at hUa;by_cases fb:Store.freeS ⟨sl,tr⟩ y=true
   . obtain⟨hky,j,hyj,hjl,hsy⟩:=Store.freeS_at fb;rw[if_pos fb,hsy]at hUb;obtain⟨hv1,hv2,hv3⟩:=hbd y x (.inr ⟨rfl,rfl⟩) fb;rw[hyj]at hv3;have hF:=zgM hyj hjl hso hxo hv1 hv3 (by simp only at htr;omega) hsn;obtain⟨p,hp⟩:∃ p,sl[j]=p:=⟨_,rfl⟩;rw[hp]at hUb;by_cases hs3:x.kind=1/\x.id=y.id
     . rw[if_pos ⟨hs3.1,hky,hs3.2⟩]at h;obtain⟨rfl,rfl,rfl,rfl⟩:=hno h;clear hF hbd;obtain⟨xk,xn,xi,xh,xl⟩:=x;obtain⟨yk,yn,yi,yh,yl⟩:=y;obtain⟨pb,⟨pk,pn,pi,ph,pl⟩,pm,pg⟩:=p;simp only[Ty.kind_mk,Ty.id_mk]at hky hyj hs3;obtain⟨hs4,hs5⟩:=hs3;subst hky hs4 hs5 hyj;simp[zdi]at hUa hUb;simp [hE,zP,hZ,za7,hso,hao,hbo,e2,hna,hna2,hnb,hnb2,hW,h6,hsn,vacant_eq,hwa,hwb,hSl,hUa,hUb,ena,enb];exact .inl (GivesL.keep rfl rfl (by simp) (by simp) (by simp[zo,zf]))
     . rw[if_neg (by rintro ⟨h1,_,h3⟩;exact hs3 ⟨h1,h3⟩),if_neg fa,if_pos fb,hyj]at h;have hj1:=(Prod.mk.inj h).1;have hj2:=(Prod.mk.inj (Prod.mk.inj h).2).1;have hj3:=(Prod.mk.inj (Prod.mk.inj h).2).2;rw[hj3]at hF;rw[hj2]at hF;simp only[List.drop_left]at hF;subst hj1;clear h hj3 hj2 hbd;obtain⟨xk,xn,xi,xh,xl⟩:=x;obtain⟨yk,yn,yi,yh,yl⟩:=y;obtain⟨pb,⟨pk,pn,pi,ph,pl⟩,pm,pg⟩:=p;simp only[Ty.kind_mk,Ty.id_mk]at hky hyj hs3;subst hky hyj;simp[zdi]at hUa hUb;simp at hF;by_cases hx1:xk=1
       . have hs4:¬ xi=(j:Int):=fun e=>hs3 ⟨hx1,e⟩
         subst hx1;obtain⟨tr2,htr2⟩:∃ tr2,tr++ex=tr2:=⟨_,rfl⟩;simp [htr2,hE,zP,hZ,za7,hso,hao,hbo,e2,hna,hna2,hnb,hnb2,hW,h6,hsn,vacant_eq,hwa,hwb,hSl,hUa,hUb,hs4,ena,enb,hB,hF];exact .inl (GivesL.keep rfl rfl (by simp) (by simp) (by simp[zo,zf]))
       . skip
         obtain⟨tr2,htr2⟩:∃ tr2,tr++ex=tr2:=⟨_,rfl⟩;simp [htr2,hE,zP,hZ,za7,hso,hao,hbo,e2,hna,hna2,hnb,hnb2,hW,h6,hsn,vacant_eq,hwa,hwb,hSl,hUa,hUb,hx1,ena,enb,hB,hF];exact .inl (GivesL.keep rfl rfl (by simp) (by simp) (by simp[zo,zf]))
   . rw [if_neg fb]at hUb;simp[zdi]at hUa hUb;clear hbd;obtain⟨xk,xn,xi,xh,xl⟩:=x;obtain⟨yk,yn,yi,yh,yl⟩:=y;simp only[Ty.kind_mk,Ty.id_mk,Ty.args_mk]at h hxl;rw[if_neg fa,if_neg fb]at h;simp at hUa hUb;by_cases h1:xk=yk
     . subst h1;by_cases hn:xn=yn
       . subst hn;by_cases hi:xi=yi
         . subst hi;by_cases hv:xk=1
           . subst hv;rw[if_pos ⟨rfl,rfl,rfl⟩]at h;obtain⟨rfl,rfl,rfl,rfl⟩:=hno h;simp [hE,zP,hZ,za7,hso,hao,hbo,e2,hna,hna2,hnb,hnb2,hW,h6,hsn,vacant_eq,hwa,hwb,hSl,hUa,hUb,ena,enb];exact .inl (GivesL.keep rfl rfl (by simp) (by simp) (by simp[zo,zf]))
           . rw [if_neg (fun hh=>hv hh.1)]at h;by_cases hh:xh=yh
             . subst hh;by_cases hl:xl.length=yl.length
               . rw[if_neg (by unfold Store.clash;simp[hl])]at h;have hj1:=(Prod.mk.inj h).1;have hj2:=(Prod.mk.inj (Prod.mk.inj h).2).1;have hj3:=(Prod.mk.inj (Prod.mk.inj h).2).2;obtain⟨hj4,hj5⟩:=Store.mk.inj hj3;have hj6:ex=[]:=by simpa using hj5.symm
                 replace hj1:l=zjz xl yl:=hj1.symm;subst hj1 hj2 hj4 hj6;have hzl:=zes hl;have ht:List.take xl.length (List.map zx (zjz xl yl))=List.map zx (zjz xl yl):=List.take_of_length_le (by rw[List.length_map,hzl];exact Nat.le_refl _);have r1:xl.length*128<=1048576:=by omega
                 have r2:xl.length*10<=1048576:=by omega
                 have hl':yl.length=xl.length:=hl.symm;simp [hE,zP,hZ,za7,hso,hao,hbo,e2,hna,hna2,hnb,hnb2,hW,h6,hsn,vacant_eq,hwa,hwb,hSl,hUa,hUb,ena,enb,hv,hl',r1,r2,-List.map_replicate];refine zgy hρ hE hcon (sl:=sl) (tr:=tr) (g:=g) (xk:=xk) (xn:=xn) (xi:=xi) (xh:=xh) (xl:=xl) (yk:=xk) (yn:=xn) (yi:=xi) (yh:=xh) (yl:=yl) hl (by omega) rfl rfl (Less.auto (by simp[zP]) (by simp[zP,zo,zf,zkx,zeq]) (by simp[zP]) (by simp[zP]<;>(intro x hx;first|omega|exact⟨.inl hx,by omega⟩))) ?_;simp [hE,zP,zkx];exact .inr (GivesP.keep rfl rfl (by simp[zbh,hzl,ht]) (by simp[ownB,zo,zf]))
               . have hl2:¬ (xl.length:Int)=yl.length:=by omega
                 rw[if_pos (by unfold Store.clash;simp[hl])]at h;obtain⟨rfl,rfl,rfl,rfl⟩:=hno h;simp [hE,zP,hZ,za7,hso,hao,hbo,e2,hna,hna2,hnb,hnb2,hW,h6,hsn,vacant_eq,hwa,hwb,hSl,hUa,hUb,ena,enb,hv,hl,hl2];exact .inl (GivesL.keep rfl rfl (by simp) (by simp) (by simp[zo,zf]))
             . rw[if_pos (by unfold Store.clash;simp[hh])]at h;obtain⟨rfl,rfl,rfl,rfl⟩:=hno h;simp [hE,zP,hZ,za7,hso,hao,hbo,e2,hna,hna2,hnb,hnb2,hW,h6,hsn,vacant_eq,hwa,hwb,hSl,hUa,hUb,ena,enb,hv,hh];exact .inl (GivesL.keep rfl rfl (by simp) (by simp) (by simp[zo,zf]))
         . rw[if_neg (fun hh=>hi hh.2.2),if_pos (by unfold Store.clash;simp[hi])]at h;obtain⟨rfl,rfl,rfl,rfl⟩:=hno h;by_cases hv:xk=1
           . subst hv;simp [hE,zP,hZ,za7,hso,hao,hbo,e2,hna,hna2,hnb,hnb2,hW,h6,hsn,vacant_eq,hwa,hwb,hSl,hUa,hUb,ena,enb,hi];exact .inl (GivesL.keep rfl rfl (by simp) (by simp) (by simp[zo,zf]))
           . simp [hE,zP,hZ,za7,hso,hao,hbo,e2,hna,hna2,hnb,hnb2,hW,h6,hsn,vacant_eq,hwa,hwb,hSl,hUa,hUb,ena,enb,hi,hv];exact .inl (GivesL.keep rfl rfl (by simp) (by simp) (by simp[zo,zf]))
       . have hcl:Store.clash (.mk xk xn xi xh xl) (.mk xk yn yi yh yl):=.inr (.inl hn);by_cases hv:xk=1/\xi=yi
         . rw[if_pos ⟨hv.1,hv.1,hv.2⟩]at h;obtain⟨rfl,rfl,rfl,rfl⟩:=hno h;obtain⟨hv1,hv2⟩:=hv;subst hv1 hv2;simp [hE,zP,hZ,za7,hso,hao,hbo,e2,hna,hna2,hnb,hnb2,hW,h6,hsn,vacant_eq,hwa,hwb,hSl,hUa,hUb,ena,enb];exact .inl (GivesL.keep rfl rfl (by simp) (by simp) (by simp[zo,zf]))
         . rw[if_neg (fun hh=>hv ⟨hh.1,hh.2.2⟩),if_pos hcl]at h;obtain⟨rfl,rfl,rfl,rfl⟩:=hno h;by_cases hv1:xk=1
           . have hi:¬ xi=yi:=fun e=>hv ⟨hv1,e⟩
             subst hv1;simp [hE,zP,hZ,za7,hso,hao,hbo,e2,hna,hna2,hnb,hnb2,hW,h6,hsn,vacant_eq,hwa,hwb,hSl,hUa,hUb,ena,enb,hn,hi];exact .inl (GivesL.keep rfl rfl (by simp) (by simp) (by simp[zo,zf]))
           . simp [hE,zP,hZ,za7,hso,hao,hbo,e2,hna,hna2,hnb,hnb2,hW,h6,hsn,vacant_eq,hwa,hwb,hSl,hUa,hUb,ena,enb,hn,hv1];exact .inl (GivesL.keep rfl rfl (by simp) (by simp) (by simp[zo,zf]))
     . have hcl:Store.clash (.mk xk xn xi xh xl) (.mk yk yn yi yh yl):=.inl h1;rw[if_neg (fun hh=>h1 (hh.1.trans hh.2.1.symm)),if_pos hcl]at h;obtain⟨rfl,rfl,rfl,rfl⟩:=hno h;by_cases hv:xk=1
       . subst hv;have hv2:¬ yk=1:=fun e=>h1 e.symm
         simp [hE,zP,hZ,za7,hso,hao,hbo,e2,hna,hna2,hnb,hnb2,hW,h6,hsn,vacant_eq,hwa,hwb,hSl,hUa,hUb,ena,enb,h1,hv2];exact .inl (GivesL.keep rfl rfl (by simp) (by simp) (by simp[zo,zf]))
       . simp [hE,zP,hZ,za7,hso,hao,hbo,e2,hna,hna2,hnb,hnb2,hW,h6,hsn,vacant_eq,hwa,hwb,hSl,hUa,hUb,ena,enb,h1,hv];exact .inl (GivesL.keep rfl rfl (by simp) (by simp) (by simp[zo,zf]))
end
end
end Go.Proofs.YtfgmnebfhemnpaaGreat
/- The program's unification: a pair of types: the contract;slices.Backward over equations. -/
namespace Go.Proofs.YtfgmnebfhemnpaaGreat
open Go.J
open Go.J.Enc (enc)
set_option maxRecDepth 100000
set_option maxHeartbeats 1000000
open Classical in
def zlk(d:Nat)(sl:List Slot)(tr:List Change)(args:List V):Option (V×List Slot×List Change):=match args with
 | [ev]=>ob (Enc.dec ev:Option Equation) fun e=>if Store.PairOk d ⟨sl,tr⟩ e.left e.right then some (.tuple [enc (Store.pairP ⟨sl,tr⟩ e.left e.right).1,.int .i64 (Store.pairP ⟨sl,tr⟩ e.left e.right).2.1],(Store.pairP ⟨sl,tr⟩ e.left e.right).2.2.slots,(Store.pairP ⟨sl,tr⟩ e.left e.right).2.2.trail.drop tr.length)else none
 |_=>none
theorem zrr{d:Nat}{sl:List Slot}{tr:List Change}{args:List V}{q:V×List Slot×List Change}(h:zlk d sl tr args=some q):∃ e:Equation,args=[enc e]/\Store.PairOk d ⟨sl,tr⟩ e.left e.right/\q=(.tuple [enc (Store.pairP ⟨sl,tr⟩ e.left e.right).1,.int .i64 (Store.pairP ⟨sl,tr⟩ e.left e.right).2.1],(Store.pairP ⟨sl,tr⟩ e.left e.right).2.2.slots,(Store.pairP ⟨sl,tr⟩ e.left e.right).2.2.trail.drop tr.length):=by
 unfold zlk at h;split at h
 . simp only[zt]at h;obtain⟨e,he,h⟩:=h;split at h
   . rename_i hh;cases h;exact⟨e,by rw[Enc.enc_dec _ _ he],hh,rfl⟩
   . cases h
 . cases h
open Classical in
theorem zjS{d:Nat}{sl:List Slot}{tr:List Change}{e:Equation}(hh:Store.PairOk d ⟨sl,tr⟩ e.left e.right){l:List Equation}{c:Int}{sl':List Slot}{ex:List Change}(h:Store.pairP ⟨sl,tr⟩ e.left e.right=(l,c,⟨sl',tr++ex⟩)):zlk d sl tr [enc e]=some (.tuple [enc l,.int .i64 c],sl',ex):=by
 show ob (Enc.dec (enc e):Option Equation) _=_;rw[Enc.dec_enc];show (if Store.PairOk d ⟨sl,tr⟩ e.left e.right then _ else none)=_;rw[if_pos hh,h];simp
theorem zf6(s:Store)(a b:Ty):∃ m,Store.Grow s (s.pairP a b).2.2 m:=by
 unfold Store.pairP;split
 . exact⟨0,.refl _ _⟩
 split
 . exact⟨0,.refl _ _⟩
 split
 . split
   . exact⟨_,Store.grow_join _ _ _⟩
   . exact⟨_,Store.grow_bind _ _ _⟩
 split
 . exact⟨_,Store.grow_bind _ _ _⟩
 split
 . exact⟨0,.refl _ _⟩
 . exact⟨0,.refl _ _⟩
section
variable {ρ:Nat->Value}(hρ:J.Good ρ)
include hρ
theorem zCI(d:Nat):Valid ρ Tryz.prog 57 (zaT (uwM (zlk d))):=by
 refine Valid.emb (fo Tryz.func57 zMO) fun vs hs D h=>?_
 obtain⟨args,sl,tr,g,r,sl',ex,a,b,c,f,hF,rfl,_,hr,hg,hfit⟩:=zfQ h;obtain⟨e,rfl,h1,hq⟩:=zrr hF;cases hq;have hEE:(EL [(44,za7),(67,rdE (usM zk2)),(73,rdT (uwM zg4)),(74,zaT (uwM zl2)),(75,zaT (uwM (zmn d)))]).P=Tryz.prog:=rfl
 have hcn:ConsOk ρ (EL [(44,za7),(67,rdE (usM zk2)),(73,rdT (uwM zg4)),(74,zaT (uwM zl2)),(75,zaT (uwM (zmn d)))]) :=
  zu (zq (z7h hρ) (zq (z7f hρ) (zq (zyS hρ) (zq (zCJ hρ) (zq (zCL hρ d) valid_nil)))))
 obtain⟨m,hm⟩:=zf6 ⟨sl,tr⟩ e.left e.right;have he:=hm.eq;have heq:Store.pairP ⟨sl,tr⟩ e.left e.right=((Store.pairP ⟨sl,tr⟩ e.left e.right).1,(Store.pairP ⟨sl,tr⟩ e.left e.right).2.1,⟨(Store.pairP ⟨sl,tr⟩ e.left e.right).2.2.slots,tr++(Store.pairP ⟨sl,tr⟩ e.left e.right).2.2.trail.drop tr.length⟩):=Prod.ext rfl (Prod.ext rfl he);obtain⟨el,er⟩:=e
 cases g with
 |none=>exact zve hρ hcn follows named Tryz.func57 zMO rfl hg (zj5 hρ hEE hcn rfl rfl rfl rfl rfl h1 heq) (fun _ _ h=>h) hfit
 |some g=>exact zve hρ hcn follows named Tryz.func57 zMO rfl hg (zj4 hρ hEE hcn rfl rfl rfl rfl rfl h1 heq) (fun _ _ h=>h) hfit
theorem z7n:Valid ρ Tryz.prog 58 (zaT (zmo 76)):=by
 refine Valid.emb (fo Tryz.func58 zRa) fun vs hs D h=>?_
 obtain⟨es,tg,rfl,hg,hfit⟩:=zv4 h;refine em hρ (E:=EL []) rfl (zu valid_nil) Tryz.func58 zRa rfl hg ?_ hfit;show Wp ρ _ 0 _ _ _ { H:=mkP [],n:=0,log:=[] } (J.Leaves _ _ (GivesL 0 (.func 76 [.ptr 0 0 0]) [(0,zaM (.sl es tg))]));simp;exact GivesL.keep rfl rfl rfl rfl (by simp)
end
end Go.Proofs.YtfgmnebfhemnpaaGreat
/- The program's unification: the pairs of the arguments are pushed onto the work list. -/
namespace Go.Proofs.YtfgmnebfhemnpaaGreat
open Go.J
open Go.J.Enc (enc)
set_option maxRecDepth 100000
set_option maxHeartbeats 4000000
section
variable {ρ:Nat->Value}(hρ:J.Good ρ)
include hρ
section
variable {E:Env}(hE:E.P=Tryz.prog)(hcon:ConsOk ρ E)
include hE hcon
theorem zbx {k:Nat} {sl2:List Slot} {tr2:List Change} {G2:Option Nat} {more l rows:List Equation} {gen:Nat} {cap:Option Nat} {x:Bool} (hcap:∀ c,cap=some c->c=rows.length) (h1:rows.take l.length=l.reverse) (h2:l.length<=rows.length) (hll:l.length<=7000) (hml:more.length<=1000)
 {T:PT V} {hs:HS} {Q:Ex->PT V->HS->Prop} (hT:Less k T hs (mkP [(7,.ptr 3 0 0),(8,.ptr 4 0 0),(43,.func 76 [.ptr 6 0 0])]) { H:=mkP (zK sl2 tr2 G2++[(3,zaM (.ptr 0 0 0)),(4,zaM (.own 5 gen 0 l.length cap)),(5,.arr 10 gen (rows.map zx) x false true),(6,zaM (.sl (more.map zx) false))]),n:=7,log:=[] })
 (hQ:∀ H n log,7<n->(∀ i,n<=i->H.get i=none)->WkI (zK sl2 tr2 G2++[(3,zaM (.ptr 0 0 0)),(6,zaM (.sl (more.map zx) false))]) (more++l) H->LessQ k Q .normal (mkP [(7,.ptr 3 0 0),(8,.ptr 4 0 0),(43,.func 76 [.ptr 6 0 0])]) { H:=H,n:=n,log:=log }) :
 Ls ρ E k 50 (.range (.tmp 43) #[44,45] znm zgf) T hs Q:=by
 have hHF7:∀ p∈zK sl2 tr2 G2++[(3,zaM (.ptr 0 0 0)),(6,zaM (.sl (more.map zx) false))],p.1<4\/p.1=6:=by
  intro p hp
  cases G2 with
  | none =>
    simp only[zK,zbD,List.append_nil,List.cons_append,List.nil_append,List.mem_cons,List.not_mem_nil,or_false]at hp;rcases hp with rfl|rfl|rfl|rfl<;>simp
  | some G =>
    simp only[zK,trH,List.cons_append,List.nil_append,List.mem_cons,List.not_mem_nil,or_false]at hp;rcases hp with rfl|rfl|rfl|rfl|rfl<;>simp
 refine zai (zcR hT ?_);refine zAk hρ hcon (by rw[hE];exact follows) (by rw[hE];exact named) ?_
 refine zAm (f:=76) (fn:=Tryz.f76) (tS:=98) (tE:=97) (tI:=3) (tB:=4) (IS:=I98) (IE:=I97) (val:=fun e=>.agg e) (bx:=6) (by rw[hE];exact Tryz.func76) zST (by kernel_rfl) (by kernel_rfl) (by rw[hE];simp) (by simp) (by rw[hE];simp) (es:=more.map zx) (tg:=false) (by rw[zS2];exact zmA _) ?_ ?_ (by simp) (by cases G2<;>simp[zK]) (by omega) ?_ ?_
  (fun j H=>WkI (zK sl2 tr2 G2++[(3,zaM (.ptr 0 0 0)),(6,zaM (.sl (more.map zx) false))]) (more.drop j++l) H)
  (fun j e T H n=>WkM (zK sl2 tr2 G2++[(3,zaM (.ptr 0 0 0)),(6,zaM (.sl (more.map zx) false))]) (more.drop (j+1)++l) e T H n)
  (fun j H o h=>zvB (fun p hp=>by have:=hHF7 p hp;omega) h) ?_ ?_ ?_ ?_ ?_
 . intro e he;obtain⟨c,_,rfl⟩:=List.mem_map.1 he;simp
 . simp;omega
 . intro i hi;obtain⟨j,rfl⟩:∃ j,i=j+7:=⟨i-7,by omega⟩;cases G2<;>simp[zK]
 . intro v1 v2;exact⟨_,rfl⟩
 . rintro j e T H n o ⟨g1,g2,id,g3,g4,g5,g6⟩;exact⟨zvB (fun p hp=>by have:=hHF7 p hp;omega) g1,g2,id,g3,g4,g5,by rw[PT.set_get,if_neg (by omega)];exact g6⟩
 . rw[List.length_map,List.drop_length,List.nil_append];refine⟨fun p hp=>?_,5,gen,cap,rows,x,by omega,by omega,by omega,by cases G2<;>simp[zK],by cases G2<;>simp[zK],h1,h2,hcap⟩
   cases G2 with
   | none =>
     simp only[zK,zbD,List.append_nil,List.cons_append,List.nil_append,List.mem_cons,List.not_mem_nil,or_false]at hp;rcases hp with rfl|rfl|rfl|rfl<;>simp[zK]
   | some G =>
     simp only[zK,trH,List.cons_append,List.nil_append,List.mem_cons,List.not_mem_nil,or_false]at hp;rcases hp with rfl|rfl|rfl|rfl|rfl<;>simp[zK]
 . intro i e he H n log T1 hn hv hI hz;cases hz;have hv':∀ j,H.get (n+j)=none:=fun j=>hv _ (by omega)
   have hv0:=hv n (Nat.le_refl _);have h7:¬ 7=n:=by omega
   have h6:¬ 6=n:=by omega
   obtain⟨c,rfl⟩:∃ c,e=zx c:=by
    have hm:=List.mem_of_getElem? he;obtain⟨c,_,rfl⟩:=List.mem_map.1 hm;exact⟨c,rfl⟩
   refine zGZ (ρ:=ρ) (k:=0) rfl ?_;simp [znm,hE,hv',hv0,h7,h6];refine⟨fun j hj=>?_,zy9 hv0 hI,by simp,n,by simp,by omega,by omega,by simp⟩;rw[if_neg (by omega),if_neg (by omega)];exact hv j (by omega)
 . rintro i e he H n log T2 hn hv ⟨hI,t8,id,t13,i7,iN,gid⟩;have hv':∀ j,H.get (n+j)=none:=fun j=>hv _ (by omega)
   have hv0:=hv n (Nat.le_refl _);obtain⟨hHF,rid,gen,cap,rows,x,r5,r6,r7,g4,gr,k1,k2,k3⟩:=hI
   obtain⟨q,hq⟩:∃ q,more[i]?=some q:=by
    rw[List.getElem?_map,Option.map_eq_some_iff]at he;obtain⟨c,hc,_⟩:=he;exact⟨c,hc⟩
   have he':e=zx q:=by
    rw[List.getElem?_map,hq]at he;exact(Option.some.inj he).symm
   subst he';have hil:=(List.getElem?_eq_some_iff.1 hq).1;have hci:=(List.getElem?_eq_some_iff.1 hq).2;have hnext:more.drop i++l=q::(more.drop (i+1)++l):=by rw[List.drop_eq_getElem_cons hil,hci];rfl
   have hLl:(more.drop (i+1)++l).length<=8000:=by rw[List.length_append,List.length_drop];omega
   rw[hnext];generalize more.drop (i+1)++l=M at k1 k2 g4 hLl;obtain⟨J,hJ⟩:∃ J,rows=M.reverse++J:=⟨rows.drop M.length,by rw[<- k1,List.take_append_drop]⟩;obtain⟨A,hA⟩:∃ A,M.reverse=A:=⟨_,rfl⟩;have hAl:M.length=A.length:=by rw[<- hA,List.length_reverse]
   have hA2:(q::M).reverse=A++[q]:=by rw[List.reverse_cons,hA]
   rw[hA]at hJ;subst hJ;obtain⟨N,hN⟩:∃ N,M.length=N:=⟨_,rfl⟩;rw[hN]at g4 hLl hAl;subst hAl;have hrn:rid<n:=Nat.lt_of_not_le fun hle=>by rw[hv rid hle]at gr;cases gr
   have nr:∀ j,¬ rid=n+j:=fun j=>by omega
   have nr2:∀ j,¬ n+j=rid:=fun j=>by omega
   have nr0:¬ rid=n:=by omega
   have n4:∀ j,¬ 4=n+j:=fun j=>by omega
   have n40:¬ 4=n:=by omega
   have n4r:¬ rid=4:=by omega
   have n4s:¬ 4=rid:=by omega
   have n6:¬ 6=rid:=by omega
   have n7:¬ 7=rid:=by omega
   have n6n:∀ j,¬ 6=n+j:=fun j=>by omega
   have n7n:∀ j,¬ 7=n+j:=fun j=>by omega
   have nid:∀ j,¬ id=n+j:=fun j=>by omega
   have hroom:(A.length+1)*128<=1048576:=by omega
   have hov:∀ (c d:List V) (J':List Equation),zbm (A.map zx++c::J'.map zx) A.length [d]=A.map zx++d::J'.map zx:=fun c d J'=>zru (by rw[List.length_map])
   have hov2:=hov
   try simp only[zx]at hov2
   have htk:List.take A.length (A.map zx)=A.map zx:=List.take_of_length_le (by rw[List.length_map];exact Nat.le_refl _);refine zGZ (ρ:=ρ) (k:=0) rfl ?_
   cases cap with
   | none =>
     cases J with
     | nil =>
       simp [zgf,hE,hv',hv0,t8,t13,g4,gr,gid,nr,nr0,n4,n40,n4r,n4s,n6,n7,n6n,n7n,nid,hroom,hov2,nr2,htk,Nat.not_succ_le_self,Nat.add_assoc];refine⟨fun j hj=>?_,fun p hp=>?_,rid,gen+1,none,A++[q],false,by omega,by omega,by omega,?_,?_,?_,?_,fun c hc=>by cases hc⟩
       . repeat rw[if_neg (by omega)]
         exact hv j (by omega)
       . have:=hHF7 p hp;simp only[PT.set_get]
         repeat rw[if_neg (by omega)]
         exact hHF p hp
       . simp[PT.set_get,hN,n4s,nr2,n4,n40]<;>omega
       . simp[PT.set_get,n4r,nr,nr2,n4]<;>omega
       . rw[hA2];exact List.take_of_length_le (by simp[hN])
       . simp[hN]
     | cons y J =>
       simp [zgf,hE,hv',hv0,t8,t13,g4,gr,gid,nr,nr0,n4,n40,n4r,n4s,n6,n7,n6n,n7n,nid,hroom,hov2,nr2,htk,Nat.not_succ_le_self,Nat.add_assoc];refine⟨fun j hj=>?_,fun p hp=>?_,rid,gen,none,A++q::J,x,by omega,by omega,by omega,?_,?_,?_,?_,fun c hc=>by cases hc⟩
       . repeat rw[if_neg (by omega)]
         exact hv j (by omega)
       . have:=hHF7 p hp;simp only[PT.set_get]
         repeat rw[if_neg (by omega)]
         exact hHF p hp
       . simp[PT.set_get,hN,n4s,nr2,n4,n40]<;>omega
       . simp[PT.set_get,n4r,nr,nr2,n4]<;>omega
       . rw[hA2];rw[show (q::M).length=(A++[q]).length by simp[hN],show A++q::J=(A++[q])++J by simp,List.take_left]
       . simp[hN]
   | some c =>
     have hc:=k3 c rfl
     cases J with
     | nil =>
       simp [zgf,hE,hv',hv0,t8,t13,g4,gr,gid,nr,nr0,n4,n40,n4r,n4s,n6,n7,n6n,n7n,nid,hroom,hov2,nr2,htk,hc,Nat.not_succ_le_self,Nat.add_assoc];refine⟨fun j hj=>?_,fun p hp=>?_,(n+3),0,none,A++[q],false,by omega,by omega,by omega,?_,?_,?_,?_,fun c hc=>by cases hc⟩
       . repeat rw[if_neg (by omega)]
         exact hv j (by omega)
       . have:=hHF7 p hp;simp only[PT.set_get]
         repeat rw[if_neg (by omega)]
         exact hHF p hp
       . simp[PT.set_get,hN,n4s,nr2,n4,n40]<;>omega
       . simp[PT.set_get,n4r,nr,nr2,n4]<;>omega
       . rw[hA2];exact List.take_of_length_le (by simp[hN])
       . simp[hN]
     | cons y J =>
       simp [zgf,hE,hv',hv0,t8,t13,g4,gr,gid,nr,nr0,n4,n40,n4r,n4s,n6,n7,n6n,n7n,nid,hroom,hov2,nr2,htk,hc,Nat.not_succ_le_self,Nat.add_assoc];refine⟨fun j hj=>?_,fun p hp=>?_,rid,gen,(some (A++q::J).length),A++q::J,x,by omega,by omega,by omega,?_,?_,?_,?_,fun c hc=>by cases hc;rfl⟩
       . repeat rw[if_neg (by omega)]
         exact hv j (by omega)
       . have:=hHF7 p hp;simp only[PT.set_get]
         repeat rw[if_neg (by omega)]
         exact hHF p hp
       . simp[PT.set_get,hN,n4s,nr2,n4,n40]<;>omega
       . simp[PT.set_get,n4r,nr,nr2,n4]<;>omega
       . rw[hA2];rw[show (q::M).length=(A++[q]).length by simp[hN],show A++q::J=(A++[q])++J by simp,List.take_left]
       . simp[hN]
 . rintro H n log hn hv hI;rw[List.drop_zero]at hI;exact hQ H n log hn hv hI
end
end
end Go.Proofs.YtfgmnebfhemnpaaGreat
