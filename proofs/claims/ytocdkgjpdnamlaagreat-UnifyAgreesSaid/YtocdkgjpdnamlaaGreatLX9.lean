import Derived.Test.YtocdkgjpdnamlaaGreatLX8
import Derived.Test.YtocdkgjpdnamlaaGreatJUv
set_option linter.all false
noncomputable section
/- The program's unification: ML a variable,joined. -/
namespace Go.Proofs.YtocdkgjpdnamlaaGreat
open Go.J
open Go.J.Enc (enc)
set_option maxRecDepth 100000
set_option maxHeartbeats 4000000
section
variable {ρ:Nat->Value}(hρ:J.Good ρ)
include hρ
section
variable {E:Env}(hE:E.P=Tryz.prog)(hcon:aZ ρ E)
include hE hcon
theorem KV {d:Nat} (hW:E.dS 100=zaQ 1 zP) (hC:E.dS 102=sj) (hA:E.dS 101=bZ (fO fun t:Ty=>some (isArrow t))) (hH:E.dS 103=dN (Tk (JF d))) (hV:E.dS 104=bZ (fO fun i:Int=>some (aM i)))
 (nT:E.dS 73=Oj (sO wz)) (M7:E.dS 98=dN (sO CF)) (hG:E.dS 99=dN (sO zD)) {sl:List Slot} {tr:List Change} {g:Option Nat} {v t:Ty} {i:Nat} (hi:v.id=(i:Int)) (hil:i<sl.length) (hso:(⟨sl,tr⟩:Store).dF) (hto:t.ok=true) (zaL:iO ⟨sl,tr⟩ [t])
 (hhi:(Store.hiM ⟨sl,[]⟩ (Store.aJ ⟨sl,tr⟩ (i:Int)).home d t []).isSome=true) (zC2:tr.length+(dz ⟨sl,tr⟩ [t]).length<=4990) (hsl:sl.length<=1000) {zxu:List Slot} {yO:List Change} {e:Int} (h:Store.jG ⟨sl,tr⟩ (i:Int) t=(⟨zxu,tr++yO⟩,e)) :
 Wp ρ E (uK g 3) 90 zvD (((PT.leaf.set 0 (.ptr 0 0 0)).set 1 (enc v)).set 2 (enc t)) { H:=di (aH sl tr g),n:=uK g 3,log:=[] } (J.Leaves E.P Tryz.f75 (aj (uK g 3) (.int .i64 e) (aH zxu (tr++yO) (gN g yO.length)))):=by
 have hdi:i*8 / 8=i:=by omega
 have zaN:i*8 % 8=0:=by omega
 have hx0:Store.aJ ⟨sl,tr⟩ (i:Int)=sl[i]:=Store.eD (s:=⟨sl,tr⟩) hil;obtain⟨x,hx⟩:∃ x,sl[i]=x:=⟨_,rfl⟩;rw[hx]at hx0;rw[hx0]at hhi;obtain⟨⟨b,sn⟩,hq⟩:=Option.isSome_iff_exists.1 hhi;have hF:=Hq hso.2 hto hq
 have hB:Store.BI ⟨sl,tr⟩ x.home t=b:=by
  have:=Store.O1 (s:=⟨sl,tr⟩) (f:=d) (q:=(b,sn)) (by rw[<- hq];exact(Store.Tw.hiM (s:=⟨sl,tr⟩) (p:=⟨sl,[]⟩) ⟨rfl,by simp⟩ x.home d t []).symm);exact this
 unfold Store.jG at h;rw[hx0,hB]at h;obtain⟨vs,hvs⟩:∃ vs,dz ⟨sl,tr⟩ [t]=vs:=⟨_,rfl⟩;obtain⟨ar,har⟩:∃ ar,isArrow t=ar:=⟨_,rfl⟩;rw[hvs]at h zC2;rw[har]at h;have hlen:vs.length<=1000000:=by omega
 obtain⟨aa,ab,ac⟩:=ar;simp only at h
 have h0:∀ {n:Int},((⟨sl,tr⟩:Store),n)=(⟨zxu,tr++yO⟩,e)->(n,zxu,yO)=(e,sl,([]:List Change)):=by
  intro n hh;obtain⟨h1,h2⟩:=Prod.mk.inj hh;obtain⟨h3,h4⟩:=Store.mk.inj h1;have h5:yO=[]:=by simpa using h4
  rw[h2,h3,h5]
 obtain⟨vk,vn,vi,vh,va⟩:=v;obtain⟨tk,tn,ti,th,ta⟩:=t;obtain⟨xb,⟨xk,xn,xi,xh,xl⟩,xm,xg⟩:=x;simp only[Ty.gz]at hi;subst hi;simp only at h hF;have zaE:∀ (k:IntKind) (n:Int),(V.int k n).rQ=true:=fun _ _=>rfl
 cases g with
 | none =>
   by_cases c1:(i:Int)∈vs
   . rw[if_pos c1]at h;cases h0 h;simp [hE,zaE,aH,hdi,zaN,hil,hx,hW,zaL,hC,hA,har,hvs,hlen,c1,sj];exact aj.bO rfl rfl rfl (by simp)
   rw[if_neg c1]at h;by_cases c2:xg=true/\ac=true
   . rw[if_pos c2]at h;cases h0 h;obtain⟨rfl,rfl⟩:=c2;simp [hE,zaE,aH,hdi,zaN,hil,hx,hW,zaL,hC,hA,har,hvs,hlen,c1,sj];exact aj.bO rfl rfl rfl (by simp)
   rw[if_neg c2]at h
   cases b with
   | true =>
     rw[if_pos rfl]at h;cases h0 h
     cases xg with
     | false =>
       simp [hE,zaE,aH,hdi,zaN,hil,hx,hW,zaL,hC,hA,har,hvs,hlen,c1,sj,hH,hF,ae];exact aj.bO rfl rfl rfl (by simp)
     | true =>
       cases ac with
       |true=>exact absurd ⟨rfl,rfl⟩ c2
       | false =>
         simp [hE,zaE,aH,hdi,zaN,hil,hx,hW,zaL,hC,hA,har,hvs,hlen,c1,sj,hH,hF,ae];exact aj.bO rfl rfl rfl (by simp)
   | false =>
     rw[if_neg (by simp)]at h;have h1:(vs.foldl (Store.qf xm) ⟨sl,tr⟩).mY (i:Int) (.mk tk tn ti th ta)=⟨zxu,tr++yO⟩:=(Prod.mk.inj h).1;have h2:e=0:=(Prod.mk.inj h).2.symm;subst h2;obtain⟨YX,si⟩:∃ YX,tr++yO=YX:=⟨_,rfl⟩;obtain⟨G3,hG3⟩:∃ G3,gN none yO.length=G3:=⟨_,rfl⟩;rw[si,hG3]
     cases xg with
     | false =>
       simp [hE,zaE,aH,hdi,zaN,hil,hx,hW,zaL,hC,hA,har,hvs,hlen,c1,sj,hH,hF,ae];refine lX hρ hE hcon (g:=none) (vk:=vk) (vn:=vn) (vh:=vh) (va:=va) (tk:=tk) (tn:=tn) (ti:=ti) (th:=th) (ta:=ta) (xb:=xb) (xk:=xk) (xn:=xn) (xi:=xi) (xh:=xh) (xl:=xl) (xm:=xm) (xg:=false) hV nT M7 hil (by omega) hsl rfl rfl (Less.auto (by simp[aH]) (by simp[aH]) (by simp[aH]) (by simp[aH]<;>(intro x hx;first|omega|exact⟨.inl hx,by omega⟩))) fun sl1 iC G qV e1 e2 hl1 hx1 fu=>?_
       obtain⟨fK,t3,t4⟩:=(Store.kZ ⟨sl1,iC⟩ (i:Int) (.mk tk tn ti th ta)).trail;have h2:=h1;rw[<- fu]at h2;rw[h2]at t3;simp only at t3;have e3:yO=qV++fK:=by rw[e1,List.append_assoc]at t3;exact List.append_cancel_left t3
       have eG:G3=gN G fK.length:=by rw[<- hG3,e2,qw,e3,List.length_append]
       rw[t3]at si h2;have RX:=xI (by rw[hl1];exact hil) (by rw[e1,List.length_append];omega) (by rw[hl1];exact hsl) h2;subst si eG;simp at RX;clear h1 h2 t3 e1 e2 fu hG3
       cases G with
       | none =>
         rcases fK with _|⟨c,fK⟩
         . simp [hE,aH,hG,RX,ae];exact aj.bO rfl rfl rfl (by simp)
         . obtain⟨tr2,d9⟩:∃ tr2,iC++c::fK=tr2:=⟨_,rfl⟩;simp [d9,hE,aH,hG,RX,ae];exact aj.auto (by simp) (by simp) (by simp) (by simp<;>(intro x hx;first|omega|exact⟨.inl hx,by omega⟩))
       | some G =>
         obtain⟨tr2,d9⟩:∃ tr2,iC++fK=tr2:=⟨_,rfl⟩;simp [d9,hE,aH,hG,RX,ae];exact aj.bO rfl rfl rfl (by simp)
     | true =>
       cases ac with
       |true=>exact absurd ⟨rfl,rfl⟩ c2
       | false =>
         simp [hE,zaE,aH,hdi,zaN,hil,hx,hW,zaL,hC,hA,har,hvs,hlen,c1,sj,hH,hF,ae];refine lX hρ hE hcon (g:=none) (vk:=vk) (vn:=vn) (vh:=vh) (va:=va) (tk:=tk) (tn:=tn) (ti:=ti) (th:=th) (ta:=ta) (xb:=xb) (xk:=xk) (xn:=xn) (xi:=xi) (xh:=xh) (xl:=xl) (xm:=xm) (xg:=true) hV nT M7 hil (by omega) hsl rfl rfl (Less.auto (by simp[aH]) (by simp[aH]) (by simp[aH]) (by simp[aH]<;>(intro x hx;first|omega|exact⟨.inl hx,by omega⟩))) fun sl1 iC G qV e1 e2 hl1 hx1 fu=>?_
         obtain⟨fK,t3,t4⟩:=(Store.kZ ⟨sl1,iC⟩ (i:Int) (.mk tk tn ti th ta)).trail;have h2:=h1;rw[<- fu]at h2;rw[h2]at t3;simp only at t3;have e3:yO=qV++fK:=by rw[e1,List.append_assoc]at t3;exact List.append_cancel_left t3
         have eG:G3=gN G fK.length:=by rw[<- hG3,e2,qw,e3,List.length_append]
         rw[t3]at si h2;have RX:=xI (by rw[hl1];exact hil) (by rw[e1,List.length_append];omega) (by rw[hl1];exact hsl) h2;subst si eG;simp at RX;clear h1 h2 t3 e1 e2 fu hG3
         cases G with
         | none =>
           rcases fK with _|⟨c,fK⟩
           . simp [hE,aH,hG,RX,ae];exact aj.bO rfl rfl rfl (by simp)
           . obtain⟨tr2,d9⟩:∃ tr2,iC++c::fK=tr2:=⟨_,rfl⟩;simp [d9,hE,aH,hG,RX,ae];exact aj.auto (by simp) (by simp) (by simp) (by simp<;>(intro x hx;first|omega|exact⟨.inl hx,by omega⟩))
         | some G =>
           obtain⟨tr2,d9⟩:∃ tr2,iC++fK=tr2:=⟨_,rfl⟩;simp [d9,hE,aH,hG,RX,ae];exact aj.bO rfl rfl rfl (by simp)
 | some g =>
   by_cases c1:(i:Int)∈vs
   . rw[if_pos c1]at h;cases h0 h;simp [hE,zaE,aH,hdi,zaN,hil,hx,hW,zaL,hC,hA,har,hvs,hlen,c1,sj];exact aj.bO rfl rfl rfl (by simp)
   rw[if_neg c1]at h;by_cases c2:xg=true/\ac=true
   . rw[if_pos c2]at h;cases h0 h;obtain⟨rfl,rfl⟩:=c2;simp [hE,zaE,aH,hdi,zaN,hil,hx,hW,zaL,hC,hA,har,hvs,hlen,c1,sj];exact aj.bO rfl rfl rfl (by simp)
   rw[if_neg c2]at h
   cases b with
   | true =>
     rw[if_pos rfl]at h;cases h0 h
     cases xg with
     | false =>
       simp [hE,zaE,aH,hdi,zaN,hil,hx,hW,zaL,hC,hA,har,hvs,hlen,c1,sj,hH,hF,ae];exact aj.bO rfl rfl rfl (by simp)
     | true =>
       cases ac with
       |true=>exact absurd ⟨rfl,rfl⟩ c2
       | false =>
         simp [hE,zaE,aH,hdi,zaN,hil,hx,hW,zaL,hC,hA,har,hvs,hlen,c1,sj,hH,hF,ae];exact aj.bO rfl rfl rfl (by simp)
   | false =>
     rw[if_neg (by simp)]at h;have h1:(vs.foldl (Store.qf xm) ⟨sl,tr⟩).mY (i:Int) (.mk tk tn ti th ta)=⟨zxu,tr++yO⟩:=(Prod.mk.inj h).1;have h2:e=0:=(Prod.mk.inj h).2.symm;subst h2;obtain⟨YX,si⟩:∃ YX,tr++yO=YX:=⟨_,rfl⟩;obtain⟨G3,hG3⟩:∃ G3,gN (some g) yO.length=G3:=⟨_,rfl⟩;rw[si,hG3]
     cases xg with
     | false =>
       simp [hE,zaE,aH,hdi,zaN,hil,hx,hW,zaL,hC,hA,har,hvs,hlen,c1,sj,hH,hF,ae];refine lX hρ hE hcon (g:=(some g)) (vk:=vk) (vn:=vn) (vh:=vh) (va:=va) (tk:=tk) (tn:=tn) (ti:=ti) (th:=th) (ta:=ta) (xb:=xb) (xk:=xk) (xn:=xn) (xi:=xi) (xh:=xh) (xl:=xl) (xm:=xm) (xg:=false) hV nT M7 hil (by omega) hsl rfl rfl (Less.auto (by simp[aH]) (by simp[aH]) (by simp[aH]) (by simp[aH]<;>(intro x hx;first|omega|exact⟨.inl hx,by omega⟩))) fun sl1 iC G qV e1 e2 hl1 hx1 fu=>?_
       obtain⟨fK,t3,t4⟩:=(Store.kZ ⟨sl1,iC⟩ (i:Int) (.mk tk tn ti th ta)).trail;have h2:=h1;rw[<- fu]at h2;rw[h2]at t3;simp only at t3;have e3:yO=qV++fK:=by rw[e1,List.append_assoc]at t3;exact List.append_cancel_left t3
       have eG:G3=gN G fK.length:=by rw[<- hG3,e2,qw,e3,List.length_append]
       rw[t3]at si h2;have RX:=xI (by rw[hl1];exact hil) (by rw[e1,List.length_append];omega) (by rw[hl1];exact hsl) h2;subst si eG;simp at RX
       cases G with
       | none =>
         exact(by simp at e2:False).elim
       | some G =>
         obtain⟨tr2,d9⟩:∃ tr2,iC++fK=tr2:=⟨_,rfl⟩;simp [d9,hE,aH,hG,RX,ae];exact aj.bO rfl rfl rfl (by simp)
     | true =>
       cases ac with
       |true=>exact absurd ⟨rfl,rfl⟩ c2
       | false =>
         simp [hE,zaE,aH,hdi,zaN,hil,hx,hW,zaL,hC,hA,har,hvs,hlen,c1,sj,hH,hF,ae];refine lX hρ hE hcon (g:=(some g)) (vk:=vk) (vn:=vn) (vh:=vh) (va:=va) (tk:=tk) (tn:=tn) (ti:=ti) (th:=th) (ta:=ta) (xb:=xb) (xk:=xk) (xn:=xn) (xi:=xi) (xh:=xh) (xl:=xl) (xm:=xm) (xg:=true) hV nT M7 hil (by omega) hsl rfl rfl (Less.auto (by simp[aH]) (by simp[aH]) (by simp[aH]) (by simp[aH]<;>(intro x hx;first|omega|exact⟨.inl hx,by omega⟩))) fun sl1 iC G qV e1 e2 hl1 hx1 fu=>?_
         obtain⟨fK,t3,t4⟩:=(Store.kZ ⟨sl1,iC⟩ (i:Int) (.mk tk tn ti th ta)).trail;have h2:=h1;rw[<- fu]at h2;rw[h2]at t3;simp only at t3;have e3:yO=qV++fK:=by rw[e1,List.append_assoc]at t3;exact List.append_cancel_left t3
         have eG:G3=gN G fK.length:=by rw[<- hG3,e2,qw,e3,List.length_append]
         rw[t3]at si h2;have RX:=xI (by rw[hl1];exact hil) (by rw[e1,List.length_append];omega) (by rw[hl1];exact hsl) h2;subst si eG;simp at RX
         cases G with
         | none =>
           exact(by simp at e2:False).elim
         | some G =>
           obtain⟨tr2,d9⟩:∃ tr2,iC++fK=tr2:=⟨_,rfl⟩;simp [d9,hE,aH,hG,RX,ae];exact aj.bO rfl rfl rfl (by simp)
end
end
end Go.Proofs.YtocdkgjpdnamlaaGreat
/- The program's unification: ML a variable: the contract. -/
namespace Go.Proofs.YtocdkgjpdnamlaaGreat
open Go.J
open Go.J.Enc (enc)
section
variable {ρ:Nat->Value}(hρ:J.Good ρ)
include hρ
theorem zsN(d:Nat):Valid ρ Tryz.prog 75 (dN (sO (Er d))):=by
 refine Valid.PI (fo Tryz.func75 zEh) fun vs hs D h=>?_
 obtain⟨args,sl,tr,g,r,sl',ex,a,b,c,e,hF,rfl,_,hr,hg,hfit⟩:=yf h;obtain⟨v,t,i,rfl,h1,h2,h3,h4,h5,h6,h7,h8,hq⟩:=zan hF;cases hq;have zaO:(EL [(100,zaQ 1 zP),(102,sj),(101,bZ (fO fun t:Ty=>some (isArrow t))),(103,dN (Tk (JF d))),(104,bZ (fO fun i:Int=>some (aM i))),(73,Oj (sO wz)),(98,dN (sO CF)),(99,dN (sO zD))]).P=Tryz.prog:=rfl
 have hcn:aZ ρ (EL [(100,zaQ 1 zP),(102,sj),(101,bZ (fO fun t:Ty=>some (isArrow t))),(103,dN (Tk (JF d))),(104,bZ (fO fun i:Int=>some (aM i))),(73,Oj (sO wz)),(98,dN (sO CF)),(99,dN (sO zD))]) :=
  au (ag (zm3 hρ) (ag (YP hρ) (ag (YO hρ) (ag (zsW hρ d).1 (ag (zAI hρ) (ag (zbf hρ) (ag (zbg hρ) (ag (zbh hρ) az))))))))
 exact em hρ zaO hcn Tryz.func75 zEh rfl hg (KV hρ zaO hcn rfl rfl rfl rfl rfl rfl rfl rfl h1 h2 h3 h4 h5 h6 h7 h8 (Prod.ext (Store.oL ⟨sl,tr⟩ i t).eq rfl)) hfit
end
end Go.Proofs.YtocdkgjpdnamlaaGreat
