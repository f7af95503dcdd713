import Derived.Test.YtfgmnebfhemnpaaGreatLX8
import Derived.Test.YtfgmnebfhemnpaaGreatJUv
set_option linter.all false
noncomputable section
/- The program's unification: binding a variable,joined. -/
namespace Go.Proofs.YtfgmnebfhemnpaaGreat
open Go.J
open Go.J.Enc (enc)
set_option maxRecDepth 100000
set_option maxHeartbeats 4000000
section
variable {ρ:Nat->Value}(hρ:J.Good ρ)
include hρ
section
variable {E:Env}(hE:E.P=Tryz.prog)(hcon:ConsOk ρ E)
include hE hcon
theorem zkF {d:Nat} (hW:E.con 100=fnR 1 zgR) (hC:E.con 102=zkj) (hA:E.con 101=fnS (zbq fun t:Ty=>some (zaH t))) (hH:E.con 103=zaT (uhM (hiU d))) (hV:E.con 104=fnS (zbq fun i:Int=>some (zad i)))
 (hSl:E.con 73=rdT (uwM zg4)) (hSe:E.con 98=zaT (uwM zpl)) (hG:E.con 99=zaT (uwM ziC)) {sl:List Slot} {tr:List Change} {g:Option Nat} {v t:Ty} {i:Nat} (hi:v.id=(i:Int)) (hil:i<sl.length) (hso:(⟨sl,tr⟩:Store).tysOk) (hto:t.ok=true) (hvo:zbw ⟨sl,tr⟩ [t])
 (hhi:(Store.hiM ⟨sl,[]⟩ (Store.slotD ⟨sl,tr⟩ (i:Int)).home d t []).isSome=true) (hlen0:tr.length+(varsS ⟨sl,tr⟩ [t]).length<=4990) (hsl:sl.length<=1000) {sl3:List Slot} {ex3:List Change} {e:Int} (h:Store.bindP ⟨sl,tr⟩ (i:Int) t=(⟨sl3,tr++ex3⟩,e)) :
 Wp ρ E (uK g 3) 90 zMJ (((PT.leaf.set 0 (.ptr 0 0 0)).set 1 (enc v)).set 2 (enc t)) { H:=mkP (zP sl tr g),n:=uK g 3,log:=[] } (J.Leaves E.P Tryz.f75 (GivesL (uK g 3) (.int .i64 e) (zP sl3 (tr++ex3) (gN g ex3.length)))):=by
 have hdi:i*8 / 8=i:=by omega
 have hdm:i*8 % 8=0:=by omega
 have hx0:Store.slotD ⟨sl,tr⟩ (i:Int)=sl[i]:=Store.slotD_at (s:=⟨sl,tr⟩) hil;obtain⟨x,hx⟩:∃ x,sl[i]=x:=⟨_,rfl⟩;rw[hx]at hx0;rw[hx0]at hhi;obtain⟨⟨b,sn⟩,hq⟩:=Option.isSome_iff_exists.1 hhi;have hF:=zl5 hso.2 hto hq
 have hB:Store.highB ⟨sl,tr⟩ x.home t=b:=by
  have:=Store.highB_eq (s:=⟨sl,tr⟩) (f:=d) (q:=(b,sn)) (by rw[<- hq];exact(Store.Tw.hiM (s:=⟨sl,tr⟩) (p:=⟨sl,[]⟩) ⟨rfl,by simp⟩ x.home d t []).symm);exact this
 unfold Store.bindP at h;rw[hx0,hB]at h;obtain⟨vs,hvs⟩:∃ vs,varsS ⟨sl,tr⟩ [t]=vs:=⟨_,rfl⟩;obtain⟨ar,har⟩:∃ ar,zaH t=ar:=⟨_,rfl⟩;rw[hvs]at h hlen0;rw[har]at h;have hlen:vs.length<=1000000:=by omega
 obtain⟨aa,ab,ac⟩:=ar;simp only at h
 have h0:∀ {n:Int},((⟨sl,tr⟩:Store),n)=(⟨sl3,tr++ex3⟩,e)->(n,sl3,ex3)=(e,sl,([]:List Change)):=by
  intro n hh;obtain⟨h1,h2⟩:=Prod.mk.inj hh;obtain⟨h3,h4⟩:=Store.mk.inj h1;have h5:ex3=[]:=by simpa using h4
  rw[h2,h3,h5]
 obtain⟨vk,vn,vi,vh,va⟩:=v;obtain⟨tk,tn,ti,th,ta⟩:=t;obtain⟨xb,⟨xk,xn,xi,xh,xl⟩,xm,xg⟩:=x;simp only[Ty.id_mk]at hi;subst hi;simp only at h hF;have sc1:∀ (k:IntKind) (n:Int),(V.int k n).scal1=true:=fun _ _=>rfl
 cases g with
 | none =>
   by_cases c1:(i:Int)∈vs
   . rw[if_pos c1]at h;cases h0 h;simp [hE,sc1,zP,hdi,hdm,hil,hx,hW,hvo,hC,hA,har,hvs,hlen,c1,zkj];exact GivesL.keepX rfl rfl rfl (by simp[zo,zf])
   rw[if_neg c1]at h;by_cases c2:xg=true/\ac=true
   . rw[if_pos c2]at h;cases h0 h;obtain⟨rfl,rfl⟩:=c2;simp [hE,sc1,zP,hdi,hdm,hil,hx,hW,hvo,hC,hA,har,hvs,hlen,c1,zkj];exact GivesL.keepX rfl rfl rfl (by simp[zo,zf])
   rw[if_neg c2]at h
   cases b with
   | true =>
     rw[if_pos rfl]at h;cases h0 h
     cases xg with
     | false =>
       simp [hE,sc1,zP,hdi,hdm,hil,hx,hW,hvo,hC,hA,har,hvs,hlen,c1,zkj,hH,hF,vacant_eq];exact GivesL.keepX rfl rfl rfl (by simp[zo,zf])
     | true =>
       cases ac with
       |true=>exact absurd ⟨rfl,rfl⟩ c2
       | false =>
         simp [hE,sc1,zP,hdi,hdm,hil,hx,hW,hvo,hC,hA,har,hvs,hlen,c1,zkj,hH,hF,vacant_eq];exact GivesL.keepX rfl rfl rfl (by simp[zo,zf])
   | false =>
     rw[if_neg (by simp)]at h;have h1:(vs.foldl (Store.lowP xm) ⟨sl,tr⟩).giveP (i:Int) (.mk tk tn ti th ta)=⟨sl3,tr++ex3⟩:=(Prod.mk.inj h).1;have h2:e=0:=(Prod.mk.inj h).2.symm;subst h2;obtain⟨tr3,htr3⟩:∃ tr3,tr++ex3=tr3:=⟨_,rfl⟩;obtain⟨G3,hG3⟩:∃ G3,gN none ex3.length=G3:=⟨_,rfl⟩;rw[htr3,hG3]
     cases xg with
     | false =>
       simp [hE,sc1,zP,hdi,hdm,hil,hx,hW,hvo,hC,hA,har,hvs,hlen,c1,zkj,hH,hF,vacant_eq];refine zbL hρ hE hcon (g:=none) (vk:=vk) (vn:=vn) (vh:=vh) (va:=va) (tk:=tk) (tn:=tn) (ti:=ti) (th:=th) (ta:=ta) (xb:=xb) (xk:=xk) (xn:=xn) (xi:=xi) (xh:=xh) (xl:=xl) (xm:=xm) (xg:=false) hV hSl hSe hil (by omega) hsl rfl rfl (Less.auto (by simp[zP]) (by simp[zP,zo,zf]) (by simp[zP]) (by simp[zP]<;>(intro x hx;first|omega|exact⟨.inl hx,by omega⟩))) fun sl1 tr1 G ex1 e1 e2 hl1 hx1 hfold=>?_
       obtain⟨ex2,t3,t4⟩:=(Store.grow_give ⟨sl1,tr1⟩ (i:Int) (.mk tk tn ti th ta)).trail;have h2:=h1;rw[<- hfold]at h2;rw[h2]at t3;simp only at t3;have e3:ex3=ex1++ex2:=by rw[e1,List.append_assoc]at t3;exact List.append_cancel_left t3
       have eG:G3=gN G ex2.length:=by rw[<- hG3,e2,zdE,e3,List.length_append]
       rw[t3]at htr3 h2;have hF3:=zf7 (by rw[hl1];exact hil) (by rw[e1,List.length_append];omega) (by rw[hl1];exact hsl) h2;subst htr3 eG;simp at hF3;clear h1 h2 t3 e1 e2 hfold hG3
       cases G with
       | none =>
         rcases ex2 with _|⟨c,ex2⟩
         . simp [hE,zP,hG,hF3,vacant_eq];exact GivesL.keepX rfl rfl rfl (by simp[zo,zf])
         . obtain⟨tr2,htr2⟩:∃ tr2,tr1++c::ex2=tr2:=⟨_,rfl⟩;simp [htr2,hE,zP,hG,hF3,vacant_eq];exact GivesL.auto (by simp) (by simp[zo,zf]) (by simp) (by simp<;>(intro x hx;first|omega|exact⟨.inl hx,by omega⟩))
       | some G =>
         obtain⟨tr2,htr2⟩:∃ tr2,tr1++ex2=tr2:=⟨_,rfl⟩;simp [htr2,hE,zP,hG,hF3,vacant_eq];exact GivesL.keepX rfl rfl rfl (by simp[zo,zf])
     | true =>
       cases ac with
       |true=>exact absurd ⟨rfl,rfl⟩ c2
       | false =>
         simp [hE,sc1,zP,hdi,hdm,hil,hx,hW,hvo,hC,hA,har,hvs,hlen,c1,zkj,hH,hF,vacant_eq];refine zbL hρ hE hcon (g:=none) (vk:=vk) (vn:=vn) (vh:=vh) (va:=va) (tk:=tk) (tn:=tn) (ti:=ti) (th:=th) (ta:=ta) (xb:=xb) (xk:=xk) (xn:=xn) (xi:=xi) (xh:=xh) (xl:=xl) (xm:=xm) (xg:=true) hV hSl hSe hil (by omega) hsl rfl rfl (Less.auto (by simp[zP]) (by simp[zP,zo,zf]) (by simp[zP]) (by simp[zP]<;>(intro x hx;first|omega|exact⟨.inl hx,by omega⟩))) fun sl1 tr1 G ex1 e1 e2 hl1 hx1 hfold=>?_
         obtain⟨ex2,t3,t4⟩:=(Store.grow_give ⟨sl1,tr1⟩ (i:Int) (.mk tk tn ti th ta)).trail;have h2:=h1;rw[<- hfold]at h2;rw[h2]at t3;simp only at t3;have e3:ex3=ex1++ex2:=by rw[e1,List.append_assoc]at t3;exact List.append_cancel_left t3
         have eG:G3=gN G ex2.length:=by rw[<- hG3,e2,zdE,e3,List.length_append]
         rw[t3]at htr3 h2;have hF3:=zf7 (by rw[hl1];exact hil) (by rw[e1,List.length_append];omega) (by rw[hl1];exact hsl) h2;subst htr3 eG;simp at hF3;clear h1 h2 t3 e1 e2 hfold hG3
         cases G with
         | none =>
           rcases ex2 with _|⟨c,ex2⟩
           . simp [hE,zP,hG,hF3,vacant_eq];exact GivesL.keepX rfl rfl rfl (by simp[zo,zf])
           . obtain⟨tr2,htr2⟩:∃ tr2,tr1++c::ex2=tr2:=⟨_,rfl⟩;simp [htr2,hE,zP,hG,hF3,vacant_eq];exact GivesL.auto (by simp) (by simp[zo,zf]) (by simp) (by simp<;>(intro x hx;first|omega|exact⟨.inl hx,by omega⟩))
         | some G =>
           obtain⟨tr2,htr2⟩:∃ tr2,tr1++ex2=tr2:=⟨_,rfl⟩;simp [htr2,hE,zP,hG,hF3,vacant_eq];exact GivesL.keepX rfl rfl rfl (by simp[zo,zf])
 | some g =>
   by_cases c1:(i:Int)∈vs
   . rw[if_pos c1]at h;cases h0 h;simp [hE,sc1,zP,hdi,hdm,hil,hx,hW,hvo,hC,hA,har,hvs,hlen,c1,zkj];exact GivesL.keepX rfl rfl rfl (by simp[zo,zf])
   rw[if_neg c1]at h;by_cases c2:xg=true/\ac=true
   . rw[if_pos c2]at h;cases h0 h;obtain⟨rfl,rfl⟩:=c2;simp [hE,sc1,zP,hdi,hdm,hil,hx,hW,hvo,hC,hA,har,hvs,hlen,c1,zkj];exact GivesL.keepX rfl rfl rfl (by simp[zo,zf])
   rw[if_neg c2]at h
   cases b with
   | true =>
     rw[if_pos rfl]at h;cases h0 h
     cases xg with
     | false =>
       simp [hE,sc1,zP,hdi,hdm,hil,hx,hW,hvo,hC,hA,har,hvs,hlen,c1,zkj,hH,hF,vacant_eq];exact GivesL.keepX rfl rfl rfl (by simp[zo,zf])
     | true =>
       cases ac with
       |true=>exact absurd ⟨rfl,rfl⟩ c2
       | false =>
         simp [hE,sc1,zP,hdi,hdm,hil,hx,hW,hvo,hC,hA,har,hvs,hlen,c1,zkj,hH,hF,vacant_eq];exact GivesL.keepX rfl rfl rfl (by simp[zo,zf])
   | false =>
     rw[if_neg (by simp)]at h;have h1:(vs.foldl (Store.lowP xm) ⟨sl,tr⟩).giveP (i:Int) (.mk tk tn ti th ta)=⟨sl3,tr++ex3⟩:=(Prod.mk.inj h).1;have h2:e=0:=(Prod.mk.inj h).2.symm;subst h2;obtain⟨tr3,htr3⟩:∃ tr3,tr++ex3=tr3:=⟨_,rfl⟩;obtain⟨G3,hG3⟩:∃ G3,gN (some g) ex3.length=G3:=⟨_,rfl⟩;rw[htr3,hG3]
     cases xg with
     | false =>
       simp [hE,sc1,zP,hdi,hdm,hil,hx,hW,hvo,hC,hA,har,hvs,hlen,c1,zkj,hH,hF,vacant_eq];refine zbL hρ hE hcon (g:=(some g)) (vk:=vk) (vn:=vn) (vh:=vh) (va:=va) (tk:=tk) (tn:=tn) (ti:=ti) (th:=th) (ta:=ta) (xb:=xb) (xk:=xk) (xn:=xn) (xi:=xi) (xh:=xh) (xl:=xl) (xm:=xm) (xg:=false) hV hSl hSe hil (by omega) hsl rfl rfl (Less.auto (by simp[zP]) (by simp[zP,zo,zf]) (by simp[zP]) (by simp[zP]<;>(intro x hx;first|omega|exact⟨.inl hx,by omega⟩))) fun sl1 tr1 G ex1 e1 e2 hl1 hx1 hfold=>?_
       obtain⟨ex2,t3,t4⟩:=(Store.grow_give ⟨sl1,tr1⟩ (i:Int) (.mk tk tn ti th ta)).trail;have h2:=h1;rw[<- hfold]at h2;rw[h2]at t3;simp only at t3;have e3:ex3=ex1++ex2:=by rw[e1,List.append_assoc]at t3;exact List.append_cancel_left t3
       have eG:G3=gN G ex2.length:=by rw[<- hG3,e2,zdE,e3,List.length_append]
       rw[t3]at htr3 h2;have hF3:=zf7 (by rw[hl1];exact hil) (by rw[e1,List.length_append];omega) (by rw[hl1];exact hsl) h2;subst htr3 eG;simp at hF3
       cases G with
       | none =>
         exact(by simp at e2:False).elim
       | some G =>
         obtain⟨tr2,htr2⟩:∃ tr2,tr1++ex2=tr2:=⟨_,rfl⟩;simp [htr2,hE,zP,hG,hF3,vacant_eq];exact GivesL.keepX rfl rfl rfl (by simp[zo,zf])
     | true =>
       cases ac with
       |true=>exact absurd ⟨rfl,rfl⟩ c2
       | false =>
         simp [hE,sc1,zP,hdi,hdm,hil,hx,hW,hvo,hC,hA,har,hvs,hlen,c1,zkj,hH,hF,vacant_eq];refine zbL hρ hE hcon (g:=(some g)) (vk:=vk) (vn:=vn) (vh:=vh) (va:=va) (tk:=tk) (tn:=tn) (ti:=ti) (th:=th) (ta:=ta) (xb:=xb) (xk:=xk) (xn:=xn) (xi:=xi) (xh:=xh) (xl:=xl) (xm:=xm) (xg:=true) hV hSl hSe hil (by omega) hsl rfl rfl (Less.auto (by simp[zP]) (by simp[zP,zo,zf]) (by simp[zP]) (by simp[zP]<;>(intro x hx;first|omega|exact⟨.inl hx,by omega⟩))) fun sl1 tr1 G ex1 e1 e2 hl1 hx1 hfold=>?_
         obtain⟨ex2,t3,t4⟩:=(Store.grow_give ⟨sl1,tr1⟩ (i:Int) (.mk tk tn ti th ta)).trail;have h2:=h1;rw[<- hfold]at h2;rw[h2]at t3;simp only at t3;have e3:ex3=ex1++ex2:=by rw[e1,List.append_assoc]at t3;exact List.append_cancel_left t3
         have eG:G3=gN G ex2.length:=by rw[<- hG3,e2,zdE,e3,List.length_append]
         rw[t3]at htr3 h2;have hF3:=zf7 (by rw[hl1];exact hil) (by rw[e1,List.length_append];omega) (by rw[hl1];exact hsl) h2;subst htr3 eG;simp at hF3
         cases G with
         | none =>
           exact(by simp at e2:False).elim
         | some G =>
           obtain⟨tr2,htr2⟩:∃ tr2,tr1++ex2=tr2:=⟨_,rfl⟩;simp [htr2,hE,zP,hG,hF3,vacant_eq];exact GivesL.keepX rfl rfl rfl (by simp[zo,zf])
end
end
end Go.Proofs.YtfgmnebfhemnpaaGreat
/- The program's unification: binding a variable: the contract. -/
namespace Go.Proofs.YtfgmnebfhemnpaaGreat
open Go.J
open Go.J.Enc (enc)
section
variable {ρ:Nat->Value}(hρ:J.Good ρ)
include hρ
theorem zCL(d:Nat):Valid ρ Tryz.prog 75 (zaT (uwM (zmn d))):=by
 refine Valid.emb (fo Tryz.func75 zQQ) fun vs hs D h=>?_
 obtain⟨args,sl,tr,g,r,sl',ex,a,b,c,e,hF,rfl,_,hr,hg,hfit⟩:=zfQ h;obtain⟨v,t,i,rfl,h1,h2,h3,h4,h5,h6,h7,h8,hq⟩:=zvz hF;cases hq;have hEE:(EL [(100,fnR 1 zgR),(102,zkj),(101,fnS (zbq fun t:Ty=>some (zaH t))),(103,zaT (uhM (hiU d))),(104,fnS (zbq fun i:Int=>some (zad i))),(73,rdT (uwM zg4)),(98,zaT (uwM zpl)),(99,zaT (uwM ziC))]).P=Tryz.prog:=rfl
 have hcn:ConsOk ρ (EL [(100,fnR 1 zgR),(102,zkj),(101,fnS (zbq fun t:Ty=>some (zaH t))),(103,zaT (uhM (hiU d))),(104,fnS (zbq fun i:Int=>some (zad i))),(73,rdT (uwM zg4)),(98,zaT (uwM zpl)),(99,zaT (uwM ziC))]) :=
  zu (zq (z7g hρ) (zq (zqw hρ) (zq (zqs hρ) (zq (zCV hρ d).1 (zq (zKB hρ) (zq (zyS hρ) (zq (z7c hρ) (zq (zyT hρ) valid_nil))))))))
 exact em hρ hEE hcn Tryz.func75 zQQ rfl hg (zkF hρ hEE hcn rfl rfl rfl rfl rfl rfl rfl rfl h1 h2 h3 h4 h5 h6 h7 h8 (Prod.ext (Store.grow_bind ⟨sl,tr⟩ i t).eq rfl)) hfit
end
end Go.Proofs.YtfgmnebfhemnpaaGreat
