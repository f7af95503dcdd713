import Derived.Test.YtocdkgjpdnamlaaGreatLU2
import Derived.Test.YtocdkgjpdnamlaaGreatJQx
set_option linter.all false
noncomputable section
/- The law UnifyAgrees: its run. -/
namespace Go.Proofs.YtocdkgjpdnamlaaGreat
open Go.J
open Go.J.Enc (enc)
set_option maxRecDepth 100000
set_option maxHeartbeats 4000000
section
variable {ρ:Nat->Value}(hρ:J.Good ρ)
include hρ
section
variable {E:Env}(hE:E.P=Tryz.prog)(hcon:aZ ρ E)
include hE hcon
theorem Fj (h1:E.dS 8=zaY) (h2:E.dS 9=zdy) (h3:E.dS 23=bZ (fO fun bits:Int=>some (jd bits))) (h4:E.dS 24=bZ (sU (⟨[],[]⟩:Store))) (h5:E.dS 25=Mj) (h6:E.dS 26=K5 (K7 Bq)) (h7:E.dS 28=mf) (h8:E.dS 27=K5 (K6 (AY 2)))
 (h9:E.dS 12=bZ (dH (Store.znn 7))) (h10:E.dS 15=ik) (h11:E.dS 29=bZ (fO (xw 10000))) (h12:E.dS 11=bZ (dH Store.AR)) (zIb:E.dS 30=bZ (bz znM)) (zRO:E.dS 22=AP) (zaP:E.dS 31=bZ (bz wW))
 {bits:Int} {codes:List Int} (hs:HS):aA ρ Tryz.prog 7 [enc bits,enc codes] hs (.bool true) hs:=by
 refine fn hρ hE hcon Tryz.func7 zRZ rfl (by simp) ?_ hs;by_cases c1:codes.length<=60
 case neg=>simp [hE,h1,h2,zaY,zdy,c1]
 have htp:(⟨codes,0⟩:Tp).ok:=⟨Int.le_refl _,by show codes.length<=100000;omega⟩;have zLB:=Sg bits;have hD3:=PO bits;have hD4:=PN bits;obtain⟨D,zOO⟩:∃ D,jd bits=D:=⟨_,rfl⟩;rw[zOO]at zLB hD3 hD4;have hnx:∀ (t:Tp) (m:Int),t.ok->-1000000<=m->m<=1000000->Bq t m=some (t.next m):=fun t m h a b=>if_pos ⟨h,a,b⟩
 have hF1:∀ (t:Tp) (L:List Ty),t.ok->L.length<=100000->AY 2 t D L 1=some (dh 1 t D L):=fun t L ht hl=>if_pos ⟨ht,zLB,hl,by decide⟩
 have hF2:∀ (t:Tp) (L:List Ty),t.ok->L.length<=100000->AY 2 t D L 2=some (dh 2 t D L):=fun t L ht hl=>if_pos ⟨ht,zLB,hl,by decide⟩
 have hlv:=YN 5;have zLq:=Store.UG;simp [hE,h1,h2,h3,h4,zaY,zdy,c1,zOO]
 refine DV hρ hE hcon 5 (nn:=2) (fun i (_:Unit)=>[(5,.ptr 0 0 0),(6,.sl (D.map ed) false),(7,.ptr 1 0 0),(8,.int .i64 (i:Int))])
  (fun i _=>[(0,box (fB.cells (⟨codes,0⟩:Tp))),(1,box (bB (Store.five i)))]) (fun _ _=>True) ()
  (Less.auto (by simp[Store.five]) (by simp[Store.five]) (by simp[Store.five]) (by simp[Store.five]<;>(intro x hx;first|omega|exact⟨.inl hx,by omega⟩))) trivial ?_ ?_
 . intro _ _ K;simp [zey,hE];refine bq.mk (Less.auto (TL:=[(5,.ptr 0 0 0),(6,.sl (D.map ed) false),(7,.ptr 1 0 0)]) (HL:=[(0,box (fB.cells (⟨codes,0⟩:Tp))),(1,box (bB (Store.five 5)))]) (n:=2) (by simp) (by simp) (by simp) (by simp)) ?_;have hx3:=hnx ⟨codes,0⟩ 3 htp (by omega) (by omega);have ht1:=qR htp 3;have zOK:=LJ ⟨codes,0⟩ 3;have hL3:=Ui ⟨codes,0⟩ (n:=3) (by omega);rcases hq3:(⟨codes,0⟩:Tp).next 3 with⟨t1,k⟩;simp only[hq3]at hx3 ht1 zOK hL3;obtain⟨m,rfl⟩:=Int.eq_ofNat_of_zero_le zOK;have zaM:=Store.zbv hD3 hD4 ht1;have zK2:=Store.zni hD3 hD4 ht1;simp [h6,hx3]
   refine DV hρ hE hcon m (nn:=2) (fun i (p:Tp×Store)=>[(5,.ptr 0 0 0),(6,.sl (D.map ed) false),(7,.ptr 1 0 0),(9,.int .i64 ((m:Int)-(i:Int)))])
    (fun i p=>[(0,box (fB.cells p.1)),(1,box (bB p.2))]) (fun i p=>p=Store.M4 D t1 i) (t1,Store.five 5)
    (Less.auto (by simp) (by simp) (by simp) (by simp<;>(intro x hx;first|omega|exact⟨.inl hx,by omega⟩))) rfl ?_ ?_
   . intro p hp K;simp [zex,hE];obtain⟨ho,hM⟩:=zaM m;rw[<- hp]at ho hM;clear zaM zK2 hnx hF1 zLq;obtain⟨t4,s⟩:=p;simp only at ho hM;refine bq.mk (Less.auto (TL:=[(5,.ptr 0 0 0),(6,.sl (D.map ed) false),(7,.ptr 1 0 0)]) (HL:=[(0,box (fB.cells t4)),(1,box (bB s))]) (n:=2) (by simp) (by simp) (by simp) (by simp)) ?_;have hy1:=hF2 t4 (dK 5) ho (by omega);have ho1:=(uz (D:=D) (Lv:=dK 5) 2 t4 ho).1;have na:=AX (D:=D) (AQ (n:=5)) 2 t4;have ZO:=fun t'=>hM.m17 hD3 hD4 t4 t'
     rcases hq1:dh 2 t4 D (dK 5)with⟨t5,a⟩;simp only[hq1]at hy1 ho1 na ZO;have hy2:=hF2 t5 (dK 5) ho1 (by omega);have nb:=AX (D:=D) (AQ (n:=5)) 2 t5;have ZO:=ZO t5;rcases hq2:dh 2 t5 D (dK 5)with⟨t6,b⟩;simp only[hq2]at hy2 nb ZO;obtain⟨x,f,c,p,e,q,hu,so,xo,ao,bo,hc,he,co,eo,cz,ez,hA⟩:=ZO.agrees hM.ps na nb;clear hq1 hq2 ZO hM na nb hp hF2;have zLa:dK (5:Int).toNat=dK 5:=rfl;generalize hV:dK 5=L at hy1 hy2 hlv zLa;rcases L with _|⟨v,L⟩
     . cases hlv
     have hl4:L.length=4:=by simpa using hlv
     have htk:List.take 4 (List.map ax L)=List.map ax L:=List.take_of_length_le (by simp[hl4]);have hn1:xw 10000 c=some (c.size:Int):=if_pos ⟨co,cz,by decide⟩;have hn2:xw 10000 e=some (e.size:Int):=if_pos ⟨eo,ez,by decide⟩;have zH3:p=true->q=true->c.size<=40->e.size<=40->znM c e=some (EI c e):=fun hp hq h1 h2=>if_pos ⟨co,eo,(hA hp hq).1,(hA hp hq).2.1,by omega⟩
     have hag:p=true->q=true->f=15\/(f=(EI c e).2/\((EI c e).2=0->(EI c e).1.length<=100000/\∀ y,bK x.w16 a=(y,true)->y.ok=true/\y.size<=8000/\(c.dZ (EI c e).1).ok=true/\(c.dZ (EI c e).1).size<=8000/\y8 y (c.dZ (EI c e).1)=true/\y8 (c.dZ (EI c e).1) y=true)):=fun hp hq=>by
      obtain⟨k1,k2,k3⟩:=hA hp hq;obtain⟨d,hd⟩:=zb8 k1 k2;exact k3 d _ _ hd
     clear hA;rcases hr:EI c e with⟨u,g⟩;rw[hr]at zH3 hag;simp only at hag;have g1:40<(c.size:Int)↔¬ c.size<=40:=by omega
     have g2:40<(e.size:Int)↔¬ e.size<=40:=by omega
     generalize c.size=zc at hn1 zH3 g1 cz;generalize e.size=ze at hn2 zH3 g2 ez;obtain⟨z,hz⟩:∃ z,c.dZ u=z:=⟨_,rfl⟩;have zLv:u.length<=100000->wW c u=some z:=fun hl=>by rw[<- hz];exact if_pos ⟨co,hl⟩
     rw[hz]at hag;rcases hy:bK x.w16 a with⟨y,fine⟩;rw[hy]at hag;clear hz hr;obtain⟨ss,st⟩:=s;obtain⟨xs,xt⟩:=x;obtain⟨ak,an,ai,ah,al⟩:=a;obtain⟨bk,bn,bi,bh,bl⟩:=b;obtain⟨ck,cn,ci,ch,cl⟩:=c;obtain⟨ek,en,ei,eh,el⟩:=e;obtain⟨yk,yn,yi,yh,yl⟩:=y;obtain⟨zk,zn,zi,zh,zl⟩:=z;have main:∀ cc:Prop,cc->cc:=fun _ h=>h
     cases p
     . simp [hE,h7,mf,hV,h8,hy1,hy2,h10,ik,so,ao,bo,hc,he]
     cases q
     . simp [hE,h7,mf,hV,h8,hy1,hy2,h10,ik,so,ao,bo,hc,he]
     by_cases k1:zc<=40
     case neg=>simp [hE,h7,mf,hV,h8,hy1,hy2,h10,ik,so,ao,bo,hc,he,h11,hn1,g1,k1]
     by_cases k2:ze<=40
     case neg=>simp [hE,h7,mf,hV,h8,hy1,hy2,h10,ik,so,ao,bo,hc,he,h11,hn1,hn2,g1,g2,k1,k2]
     have hR:=zH3 rfl rfl k1 k2;by_cases k3:f=15
     . subst k3;simp [hE,h7,mf,hV,h8,hy1,hy2,h10,ik,so,ao,bo,hc,he,h11,hn1,hn2,g1,g2,k1,k2,h12,hu,zIb,hR]
     rcases hag rfl rfl with hh|⟨rfl,hag⟩
     . exact absurd hh k3
     by_cases k4:f=0
     case neg=>simp [hE,h7,mf,hV,h8,hy1,hy2,h10,ik,so,ao,bo,hc,he,h11,hn1,hn2,g1,g2,k1,k2,h12,hu,zIb,hR,xo,hy,k3,k4]
     subst k4;obtain⟨l1,l2⟩:=hag rfl;have zLv:=zLv l1;cases fine
     . simp [hE,h7,mf,hV,h8,hy1,hy2,h10,ik,so,ao,bo,hc,he,h11,hn1,hn2,g1,g2,k1,k2,h12,hu,zIb,hR,xo,hy]
     obtain⟨l2,l3,l4,l5,l6,l7⟩:=l2 _ rfl;simp [hE,h7,mf,hV,h8,hy1,hy2,h10,ik,so,ao,bo,hc,he,h11,hn1,hn2,g1,g2,k1,k2,h12,hu,zIb,hR,xo,hy,zRO,zaP,AP,zLv,l2,l3,l4,l5,l6,l7]
   . rintro i p hi hp K hK;obtain⟨ho,_⟩:=zaM i;have ha:=zK2 i;have hnew:=hK _ (show _=Store.M4 D t1 (i+1) from rfl);rw[Store.M4]at hnew;rw[<- hp]at ho ha hnew;clear hK zaM zK2;obtain⟨t4,s4⟩:=p;simp only at ho ha hnew;have hy1:=hF1 t4 (dK 5) ho (by omega);have ho1:=(uz (D:=D) (Lv:=dK 5) 1 t4 ho).1;rcases hq1:dh 1 t4 D (dK 5)with⟨t5,a⟩;simp only[hq1]at hy1 ho1 ha hnew;have hy2:=hF1 t5 (dK 5) ho1 (by omega);rcases hq2:dh 1 t5 D (dK 5)with⟨t6,b⟩;simp only[hq2]at hy2 ha hnew;have hF:Store.znn 7 s4 a b=some (Store.ib s4 a b):=if_pos ha;rcases hq3:Store.ib s4 a b with⟨s5,e5⟩;rw[hq3]at hF;simp only[hq3]at hnew;have hi':0<(m:Int)-(i:Int):=by omega
     have hw2:IntKind.i64.wrap ((m:Int)-(i:Int)-1)=(m:Int)-((i+1:Nat):Int):=by rw[wrap_i64 (by omega) (by omega)];omega
     clear hq1 hq2 ha zLq;have zLa:dK (5:Int).toNat=dK 5:=rfl;generalize hV:dK 5=L at hy1 hy2 hlv zLa;rcases L with _|⟨v,L⟩
     . cases hlv
     have hl4:L.length=4:=by simpa using hlv
     have htk:List.take 4 (List.map ax L)=List.map ax L:=List.take_of_length_le (by simp[hl4]);simp [zex,hE,hi,h7,mf,hV,h8,h9,hy1,hy2,hF,hw2,-Int.natCast_add];exact hnew _ _ (Less.auto (by simp[-Int.natCast_add]) (by simp) (by simp) (by simp<;>(intro x hx;first|omega|exact⟨.inl hx,by omega⟩)))
 . intro i _ hi _ K hK;have hnew:=hK () trivial;obtain⟨⟨f1,f2,_⟩,_⟩:=zLq i;have hsm:(Store.five i).small:=⟨by omega,by omega⟩;have hi':(i:Int)<5:=by omega
   have zRk:IntKind.i64.wrap ((i:Int)+1)=((i+1:Nat):Int):=bu (by omega);rw[Store.five]at hnew;rcases hq:(Store.five i).fresh 0 false with⟨s2,x2⟩;rw[hq]at hnew;simp [zey,hE,hi',h5,Mj,hsm,hq,zRk,-Int.natCast_add];exact hnew _ _ (Less.auto (by simp[-Int.natCast_add]) (by simp) (by simp) (by simp<;>(intro x hx;first|omega|exact⟨.inl hx,by omega⟩)))
end
end
end Go.Proofs.YtocdkgjpdnamlaaGreat
