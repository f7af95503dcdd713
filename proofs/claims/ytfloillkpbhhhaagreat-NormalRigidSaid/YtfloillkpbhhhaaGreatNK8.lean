import Derived.Test.YtfloillkpbhhhaaGreatNK7
import Derived.Test.YtfloillkpbhhhaaGreatJK11
import Derived.Test.YtfloillkpbhhhaaGreatNK6
import Derived.Test.YtfloillkpbhhhaaGreatNK3
set_option linter.all false
noncomputable section
namespace Go.Proofs.YtfloillkpbhhhaaGreat
open Go.J
open Go.J.bo (enc)
set_option maxRecDepth 100000
set_option maxHeartbeats 4000000
variable {a:Am}{F:Am->Y Bool}{Q:Ex->PT V->HS->Prop}{g:G}{C:HS}{n:Int}{d:Nat}{t:Tp}{α:Type}{e:Xp}{N:Z (Z Nat)}{D:Z Decl}{b5:Z Int}{s:Z Nat}{l:Z Xp}
section
variable {I:Nat->Value}(hρ:J.Good I)
include hρ
section
variable {E:Env}(U:E.P=Pg)(aq:bH I E)
include U aq
def I1 {e:Nat} (yr:E.dE 34=H6 (Iu BI)) (hT:∀ d,e=d+1->E.dE 22=H6 (Ir (xP d)))    (ht:t.ok) (hD:MT D) (hN:N.length+200*e<=10000) (C:HS) (id:Nat) (hid:id<C.n) (hg:C.H.get id=some (box (iC.cells t))) :
 aT I Pg 22 [.ptr id 0 0,enc D,enc N,enc (e:Int)] C (enc (gJ e t D N).2) (C.wr id (box (iC.cells (gJ e t D N).1))):=by
 have wg:∀ (t':Tp) (n:Int),t'.ok->0<=n->n<=10000->BI t' n=some (t'.next n):=λt' n h M O=>if_pos ⟨h,by omega,by omega⟩
 have j7:∀ (t':Tp) (n:Nat),0<n->∃ j:Nat,(t'.next n).2=(j:Int)/\j<n:=λt' n hn=>by
  have h0:=Af t' n;have M:=Cb t' (n:=(n:Int)) (by omega);obtain⟨j,hj⟩:=bK h0;exact⟨j,hj,by omega⟩
 rw[<- U];refine zrm (K:=λv C=>aH 1 (enc (gJ e t D N).2) [(0,box (iC.cells (gJ e t D N).1))] v C\/BG 1 (enc (gJ e t D N).2) [(0,box (iC.cells (gJ e t D N).1))] v C) hρ aq (by rw[U];exact follows) (by rw[U];exact named) (by rw[U];exact Tryz.func22) yT.2 rfl (by simp) (by simp) (by simp) (by simp[V.tJ,V.zM,V.Mr]) ?_ (λ_ _ h=>h) hid hg;clear hid hg;obtain⟨k,hk,VK⟩:∃ k:Nat,(t.next 8).2=(k:Int)/\k<8:=j7 t 8 (by omega);have oE:=iw ht 8;have hF:=wg t 8 ht (by omega) (by omega);have hDl:=hD.1.1;have hNl:N.length<=10000:=by omega
 generalize hR:gJ e t D N=R
 have cH:∀ c':Z V,zk1 c' R.2->Wp I E 1 177 (.seq (.w7 [⟨some 176,.load 48 (.tmp 15),none⟩,⟨none,.store 48 (.tmp 8) (.tmp 176),none⟩]) .ret) (dW [(8,.ptr 1 0 0),(15,.ptr 2 0 0)])
  { H:=dW [(0,box (iC.cells R.1)),(1,.arr 11 0 [fH] true false false),(2,.arr 11 0 [c'] true false false)],n:=3,log:=[] } (J.Leaves E.P Tryz.f22 λv C=>aH 1 (enc R.2) [(0,box (iC.cells R.1))] v C\/BG 1 (enc R.2) [(0,box (iC.cells R.1))] v C):=by
  rintro c' ⟨hl,hp,hn⟩;obtain⟨x0,x1,x2,x3,x4,x5,x6,x7,x8,x9,zyS,rfl⟩:=AK hl;simp at hp;obtain⟨p0,p1,p2,p3,p4,p5,p6,p7,p8,p9,L5⟩:=hp;simp[U,fH,IM p0,IM p1,IM p2,IM p3,IM p4,IM p5,IM p6,IM p7,IM p8,IM p9,IM L5];exact .inl (aH.bw (hn:=by simpa [bL R.2]using hn) (hv:=by simp[TJ p0,TJ p1,TJ p2,TJ p3,TJ p4,TJ p5,TJ p6,TJ p7,TJ p8,TJ p9,TJ L5]))
 have way:(gJ e t D N=zo e (t.next 8).1 D N/\((((e:Int)<1)=True)\/((((e:Int)<1)=False)/\(((k:Int)<2)=False)/\(((k:Int)=2)=False))\/((((e:Int)<1)=False)/\(((k:Int)<2)=False)/\(((k:Int)=2)=True)/\¬ (D≠[]/\N≠[])))) \/
  (∃ d,e=d+1/\(((k:Int)<2)=True))\/(∃ d,e=d+1/\k=2/\D≠[]/\N≠[]):=by
  cases e with
  |zero=>exact .inl ⟨by rw[gJ],.inl (by simp)⟩
  | succ d =>
    have M:((((d+1:Nat):Int))<1)=False:=eq_false (by omega);by_cases O:(k:Int)<2
    . exact .inr (.inl ⟨d,rfl,eq_true O⟩)
    . by_cases h4:(k:Int)=2/\D≠[]/\N≠[]
      . exact .inr (.inr ⟨d,rfl,by omega,h4.2.1,h4.2.2⟩)
      . refine .inl ⟨?_,.inr ?_⟩
        . rw[gJ];simp only[hk];rw[if_neg O,if_neg h4]
        . by_cases h3:(k:Int)=2
          . exact .inr ⟨M,eq_false O,eq_true h3,λh=>h4 ⟨h3,h⟩⟩
          . exact .inl ⟨M,eq_false O,eq_false h3⟩
 rcases hq:t.next 8 with⟨t1,k'⟩;simp only[hq]at hk oE hF way;subst hk;rcases way with⟨hw,hx⟩|⟨d,rfl,hk⟩|⟨d,rfl,rfl,s4,AI⟩
 . by_cases AI:N=[]
   . subst AI;by_cases s4:D=[]
     . subst s4;have hP:Az t1 [] []=(t1,false,[120]):=by simp[Az]
       obtain⟨m,hm,CI⟩:∃ m:Nat,(Tp.next t1 3).2=(m:Int)/\m<3:=j7 t1 3 (by omega);have Nz:=wg t1 3 oE (by omega) (by omega);have sC:=iw oE 3;rcases oj:Tp.next t1 3 with⟨t3,k3⟩;simp only[oj]at hm Nz sC;subst hm;have hH:zo e t1 [] []=UQ e t3 [] [] (G5 false ([120])) m:=by rw[zO,hP];simp only[oj,bP]
       rcases hx with he|⟨he,hk,oX⟩|⟨he,hk,oX,WD⟩
       all_goals first|simp[U,yr,hF,Nz,he,hk,oX,-Int.natCast_add]|simp[U,yr,hF,Nz,he,-Int.natCast_add]
       all_goals refine Fg hρ U aq (e:=e) (b:=false) (n:=[120]) hT sC hD hN (m:=m) (by omega) (aw.auto (hH:=by simp[fH,zB]) (hi:=by simp[fH,zB])) ?_
       all_goals rw[<- hH,<- hw,hR]
       all_goals exact cH
     . have AS:0<D.length:=bT.2 s4;have n8:=wg t1 2 oE (by omega) (by omega);have pH:=iw oE 2;rcases lR:Tp.next t1 2 with⟨t2,k2⟩;simp only[lR]at n8 pH;by_cases hz:k2=0
       . subst hz;obtain⟨jd,O2,O9⟩:=j7 t2 D.length (bT.2 s4);have G4:=wg t2 D.length pH (by omega) (by omega);have E7:=iw pH D.length;rcases MA:t2.next D.length with⟨tD,kD⟩;simp only[MA]at O2 G4 E7;subst O2;obtain⟨vd,B1,_⟩:=hD.2 _ (az O9);have C7:=bT.2 vd;obtain⟨jc,hjc,S4⟩:=j7 tD D[jd].ctors.length C7;have RK:=wg tD D[jd].ctors.length E7 (by omega) (by omega);have Rg:=iw E7 D[jd].ctors.length;rcases zDZ:tD.next D[jd].ctors.length with⟨tC,kC⟩;simp only[zDZ]at hjc RK Rg;subst hjc;have m1:jd*4 / 4=jd:=by omega
         have m3:jc*3 / 3=jc:=by omega
         have hP:Az t1 D []=(tC,true,D[jd].ctors[jc].name):=by simp[Az,s4,lR,MA,BX O9,zDZ,BX S4]
         obtain⟨m,hm,CI⟩:∃ m:Nat,(Tp.next tC 3).2=(m:Int)/\m<3:=j7 tC 3 (by omega);have Nz:=wg tC 3 Rg (by omega) (by omega);have sC:=iw Rg 3;rcases oj:Tp.next tC 3 with⟨t3,k3⟩;simp only[oj]at hm Nz sC;subst hm;have hH:zo e t1 D []=UQ e t3 D [] (G5 true (D[jd].ctors[jc].name)) m:=by rw[zO,hP];simp only[oj,bP]
         rcases hx with he|⟨he,hk,oX⟩|⟨he,hk,oX,WD⟩
         all_goals first|simp[U,yr,hF,AS,n8,O9,G4,RK,S4,m1,m3,aP,iD,Nz,he,hk,oX,-Int.natCast_add]|simp[U,yr,hF,AS,n8,O9,G4,RK,S4,m1,m3,aP,iD,Nz,he,-Int.natCast_add]
         all_goals refine Fg hρ U aq (e:=e) (b:=true) (n:=D[jd].ctors[jc].name) hT sC hD hN (m:=m) (by omega) (aw.auto (hH:=by simp[fH,zB]) (hi:=by simp[fH,zB])) ?_
         all_goals rw[<- hH,<- hw,hR]
         all_goals exact cH
       . have hP:Az t1 D []=(t2,false,[120]):=by simp[Az,s4,lR,hz]
         obtain⟨m,hm,CI⟩:∃ m:Nat,(Tp.next t2 3).2=(m:Int)/\m<3:=j7 t2 3 (by omega);have Nz:=wg t2 3 pH (by omega) (by omega);have sC:=iw pH 3;rcases oj:Tp.next t2 3 with⟨t3,k3⟩;simp only[oj]at hm Nz sC;subst hm;have hH:zo e t1 D []=UQ e t3 D [] (G5 false ([120])) m:=by rw[zO,hP];simp only[oj,bP]
         rcases hx with he|⟨he,hk,oX⟩|⟨he,hk,oX,WD⟩
         all_goals first|simp[U,yr,hF,AS,n8,hz,Nz,he,hk,oX,-Int.natCast_add]|simp[U,yr,hF,AS,n8,hz,Nz,he,-Int.natCast_add]
         all_goals refine Fg hρ U aq (e:=e) (b:=false) (n:=[120]) hT sC hD hN (m:=m) (by omega) (aw.auto (hH:=by simp[fH,zB]) (hi:=by simp[fH,zB])) ?_
         all_goals rw[<- hH,<- hw,hR]
         all_goals exact cH
   . have ID:0<N.length:=bT.2 AI;by_cases s4:D=[]
     . subst s4;obtain⟨jn,BE,O8⟩:=j7 t1 N.length (bT.2 AI);have DO:=wg t1 N.length oE (by omega) (by omega);have Hk:=iw oE N.length;rcases Is:t1.next N.length with⟨tN,kN⟩;simp only[Is]at BE DO Hk;subst BE;have hP:Az t1 [] N=(tN,false,N[jn]):=by simp[Az,AI,Is,BX O8]
       obtain⟨m,hm,CI⟩:∃ m:Nat,(Tp.next tN 3).2=(m:Int)/\m<3:=j7 tN 3 (by omega);have Nz:=wg tN 3 Hk (by omega) (by omega);have sC:=iw Hk 3;rcases oj:Tp.next tN 3 with⟨t3,k3⟩;simp only[oj]at hm Nz sC;subst hm;have hH:zo e t1 [] N=UQ e t3 [] N (G5 false (N[jn])) m:=by rw[zO,hP];simp only[oj,bP]
       rcases hx with he|⟨he,hk,oX⟩|⟨he,hk,oX,WD⟩
       all_goals first|simp[U,yr,hF,ID,DO,O8,Nz,he,hk,oX,-Int.natCast_add]|simp[U,yr,hF,ID,DO,O8,Nz,he,-Int.natCast_add]
       all_goals refine Fg hρ U aq (e:=e) (b:=false) (n:=N[jn]) hT sC hD hN (m:=m) (by omega) (aw.auto (hH:=by simp[fH,zB]) (hi:=by simp[fH,zB])) ?_
       all_goals rw[<- hH,<- hw,hR]
       all_goals exact cH
     . have AS:0<D.length:=bT.2 s4;obtain⟨jn,BE,O8⟩:=j7 t1 N.length (bT.2 AI);have DO:=wg t1 N.length oE (by omega) (by omega);have Hk:=iw oE N.length;rcases Is:t1.next N.length with⟨tN,kN⟩;simp only[Is]at BE DO Hk;subst BE;have n8:=wg tN 2 Hk (by omega) (by omega);have pH:=iw Hk 2;rcases lR:Tp.next tN 2 with⟨t2,k2⟩;simp only[lR]at n8 pH;by_cases hz:k2=0
       . subst hz;obtain⟨jd,O2,O9⟩:=j7 t2 D.length (bT.2 s4);have G4:=wg t2 D.length pH (by omega) (by omega);have E7:=iw pH D.length;rcases MA:t2.next D.length with⟨tD,kD⟩;simp only[MA]at O2 G4 E7;subst O2;obtain⟨vd,B1,_⟩:=hD.2 _ (az O9);have C7:=bT.2 vd;obtain⟨jc,hjc,S4⟩:=j7 tD D[jd].ctors.length C7;have RK:=wg tD D[jd].ctors.length E7 (by omega) (by omega);have Rg:=iw E7 D[jd].ctors.length;rcases zDZ:tD.next D[jd].ctors.length with⟨tC,kC⟩;simp only[zDZ]at hjc RK Rg;subst hjc;have m1:jd*4 / 4=jd:=by omega
         have m3:jc*3 / 3=jc:=by omega
         have hP:Az t1 D N=(tC,true,D[jd].ctors[jc].name):=by simp[Az,AI,Is,BX O8,s4,lR,MA,BX O9,zDZ,BX S4]
         obtain⟨m,hm,CI⟩:∃ m:Nat,(Tp.next tC 3).2=(m:Int)/\m<3:=j7 tC 3 (by omega);have Nz:=wg tC 3 Rg (by omega) (by omega);have sC:=iw Rg 3;rcases oj:Tp.next tC 3 with⟨t3,k3⟩;simp only[oj]at hm Nz sC;subst hm;have hH:zo e t1 D N=UQ e t3 D N (G5 true (D[jd].ctors[jc].name)) m:=by rw[zO,hP];simp only[oj,bP]
         rcases hx with he|⟨he,hk,oX⟩|⟨he,hk,oX,WD⟩<;>first|exact absurd ⟨s4,AI⟩ WD|skip
         all_goals first|simp[U,yr,hF,ID,DO,O8,AS,n8,O9,G4,RK,S4,m1,m3,aP,iD,Nz,he,hk,oX,-Int.natCast_add]|simp[U,yr,hF,ID,DO,O8,AS,n8,O9,G4,RK,S4,m1,m3,aP,iD,Nz,he,-Int.natCast_add]
         all_goals refine Fg hρ U aq (e:=e) (b:=true) (n:=D[jd].ctors[jc].name) hT sC hD hN (m:=m) (by omega) (aw.auto (hH:=by simp[fH,zB]) (hi:=by simp[fH,zB])) ?_
         all_goals rw[<- hH,<- hw,hR]
         all_goals exact cH
       . have hP:Az t1 D N=(t2,false,N[jn]):=by simp[Az,AI,Is,BX O8,s4,lR,hz]
         obtain⟨m,hm,CI⟩:∃ m:Nat,(Tp.next t2 3).2=(m:Int)/\m<3:=j7 t2 3 (by omega);have Nz:=wg t2 3 pH (by omega) (by omega);have sC:=iw pH 3;rcases oj:Tp.next t2 3 with⟨t3,k3⟩;simp only[oj]at hm Nz sC;subst hm;have hH:zo e t1 D N=UQ e t3 D N (G5 false (N[jn])) m:=by rw[zO,hP];simp only[oj,bP]
         rcases hx with he|⟨he,hk,oX⟩|⟨he,hk,oX,WD⟩<;>first|exact absurd ⟨s4,AI⟩ WD|skip
         all_goals first|simp[U,yr,hF,ID,DO,O8,AS,n8,hz,Nz,he,hk,oX,-Int.natCast_add]|simp[U,yr,hF,ID,DO,O8,AS,n8,hz,Nz,he,-Int.natCast_add]
         all_goals refine Fg hρ U aq (e:=e) (b:=false) (n:=N[jn]) hT sC hD hN (m:=m) (by omega) (aw.auto (hH:=by simp[fH,zB]) (hi:=by simp[fH,zB])) ?_
         all_goals rw[<- hH,<- hw,hR]
         all_goals exact cH
 . have hdN:N.length+1+200*d<=10000:=by omega
   have zHr:((((d+1:Nat):Int))<1)=False:=eq_false (by omega);have Kp:IntKind.i64.wrap (((d+1:Nat):Int)-1)=(d:Int):=by rw[wrap_i64 (by omega) (by omega)];omega
   have m7:xP d t1 D (N++[[119]]) (d:Int)=some (gJ d t1 D (N++[[119]])):=by
    unfold xP;rw[if_pos ⟨oE,hD,by simp;omega,by omega,by omega⟩];rfl
   have o4:R=((gJ d t1 D (N++[[119]])).1,VN [119] (gJ d t1 D (N++[[119]])).2):=by
    rw[<- hR,gJ,hq];simp only[];rw[if_pos (of_eq_true hk)]
   rcases u3:gJ d t1 D (N++[[119]])with⟨t2,y⟩;rw[u3]at m7 o4;subst o4;have j8:=hT d rfl;rcases N with _|⟨n0,N⟩
   . simp at m7;simp[U,yr,hF,zHr,hk,Kp,j8,m7,-Int.natCast_add];exact .inl (aH.bw (hn:=by simp[VN,bL,tT]))
   . have g1:(N.length+1)*16<=1048576:=by simp at hdN;omega
     have g2:(N.length+1+1)*16<=1048576:=by simp at hdN;omega
     simp at m7;simp[U,yr,hF,zHr,hk,Kp,j8,m7,g1,g2,aY,-Int.natCast_add];exact .inl (aH.bw (hn:=by simp[VN,bL,tT]))
 . have zHr:((((d+1:Nat):Int))<1)=False:=eq_false (by omega);have AS:=bT.2 s4;have ID:=bT.2 AI;obtain⟨jd,O2,O9⟩:=j7 t1 D.length AS;have G4:=wg t1 D.length oE (by omega) (by omega);have E7:=iw oE D.length;rcases MA:t1.next D.length with⟨tD,kD⟩;simp only[MA]at O2 G4 E7;subst O2;obtain⟨jn,BE,O8⟩:=j7 tD N.length ID;have DO:=wg tD N.length E7 (by omega) (by omega);have Hk:=iw E7 N.length;rcases Is:tD.next N.length with⟨tN,kN⟩;simp only[Is]at BE DO Hk;subst BE;obtain⟨vd,B1,ya⟩:=hD.2 _ (az O9);have m1:jd*4 / 4=jd:=by omega
   have o4:R=((kz d tN D N D[jd].ctors D[jd].ctors.length).1,y8 (Ap N[jn]) (kz d tN D N D[jd].ctors D[jd].ctors.length).2):=by
    rw[<- hR,gJ,hq];simp only[];rw[if_neg (by decide),if_pos ⟨rfl,s4,AI⟩];simp only[MA,BX O9,Is,BX O8]
   subst o4;generalize ld:D[jd]=dd at vd B1 ya ⊢;have j8:=hT d rfl;simp[U,yr,hF,zHr,AS,ID,G4,O9,DO,O8,m1,ld,-Int.natCast_add];refine zio hρ U aq (d:=d) (t:=tN) (dd:=dd) (k:=zB 1 N[jn]) j8 Hk hD hN AI B1 ya (aw.auto (by simp[fH,zB,-Int.natCast_add]) (by simp[fH,zB,aP]) (by simp[fH,zB])) ?_;intro A hA hn;generalize kz d tN D N dd.ctors dd.ctors.length=R at hn ⊢;rcases A with _|⟨a,A⟩
   . have hn0:R.2=[]:=by simpa using hn.symm
     simp[U,fH];exact .inl (aH.bw (hn:=by simp[y8,Ap,bL,tT,zB,hn0]))
   . have hv:gT [zB 1 N[jn]]=[dL (Ap N[jn])]:=by simp[zB,Ap,bL,tT]
     simp[U,fH];refine .inr (BG.bw rfl rfl ?_ (by simp[pC]));simp[kP,y8,bL (.mk 8 _ _ _ _ _ _),tT,hv];simpa using hn
end
def zBL (d:Nat):Valid I Pg 22 (H6 (Ir (xP d))):=by
 induction d using Nat.strongRecOn with
 | _ d ih =>
   refine s3 (fo Tryz.func22 yT.2) λs a b c q h C id hid hg=>?_
   unfold xP at h;obtain⟨⟨M,O,h3,h4,h5⟩,rfl⟩:=bF h;obtain⟨e,rfl⟩:=bK h4;rw[bP]at h3 ⊢
   cases e with
   |zero=>exact I1 hρ (E:=EL [(34,H6 (Iu BI))]) rfl (ag (ae (zau hρ) aG)) (e:=0) rfl (λd h=>by omega) M O h3 C id hid hg
   | succ e =>
     exact I1 hρ (E:=EL [(34,H6 (Iu BI)),(22,H6 (Ir (xP e)))]) rfl (ag (ae (zau hρ) (ae (ih e (by omega)) aG))) (e:=e+1) rfl (λd' h=>by
      obtain rfl:e=d':=by omega
      rfl) M O h3 C id hid hg
end
def zmU:J.Spec:=sj (zmX 11 λl:Z Xp=>if l.length<=5000 then some l.reverse else none)
section
variable {I:Nat->Value}(hρ:J.Good I)
include hρ
section
variable {E:Env}(U:E.P=Pg)(aq:bH I E)
include U aq
def Ri:aT I Pg 195 [.aE] C (Fu.v0.cq (news C.n Fu.k Fu.π)) (Dn C Fu.k Fu.k' Fu.π Fu.cI):=by
 refine em hρ U aq (D:=Fu) Tryz.func195 iM.2 rfl ziR ?_ (ziS C);show Wp I E 0 _ _ _ { H:=dW [],n:=0,log:=[] } (J.Leaves E.P _ (aH 0 (.tuple []) []));have hw:IntKind.i64.wrap (-1)=-1:=wrap_i64 (by decide) (by decide);simp[U,Fu,hw];refine vC hρ U aq 0 (nn:=0) (λ_ (_:Unit)=>[(2,.int .i64 0),(3,.int .i64 (-1))]) (λ_ _=>[]) (λ_ _=>True) () (aw.auto) trivial ?_ (λi _ h=>by omega);intro _ _ K;simp[jF,U];refine bO.mk (aw.auto (TL:=[]) (HL:=[]) (n:=0)) ?_;simp[U];exact aH.fu rfl rfl rfl (by simp)
def Ti{id g:Nat}(hl:l.length<=5000)(hg:C.H.get id=some (.arr 11 g (l.map dL) false false true))(hi:id<C.n) :
 aT I Pg 195 [.own id g 0 l.length none] C (.tuple []) (C.wr id (.arr 11 g (l.reverse.map dL) false false true)):=by
 have key:aT I Pg 195 [.own id g 0 l.length none] C ((EI id g 11 (l.map dL) (l.reverse.map dL)).val C) ((EI id g 11 (l.map dL) (l.reverse.map dL)).heap C):=by
  refine em hρ U aq (D:=EI id g 11 (l.map dL) (l.reverse.map dL)) Tryz.func195 iM.2 rfl (ziT (l:=l) (l':=l.reverse)) ?_ (ziU (l:=l) hg hi);show Wp I E 1 _ _ ((PT.leaf).set 0 (.own 0 g 0 (l.map dL).length none)) { H:=dW [(0,.arr 11 g (l.map dL) false false true)],n:=1,log:=[] } (J.Leaves E.P _ (aH 1 (.tuple []) [(0,.arr 11 g (l.reverse.map dL) false false true)]));rw[aL];have hw:IntKind.i64.wrap ((l.length:Int)-1)=(l.length:Int)-1-(0:Nat):=by rw[wrap_i64 (by omega) (by omega)];omega
  simp[U];rw[hw]
  refine vC hρ U aq (l.length / 2) (nn:=1) (λi (L:Z Xp)=>[(0,.own 0 g 0 l.length none),(2,.int .i64 (i:Int)),(3,.int .i64 ((l.length:Int)-1-(i:Int)))]) (λi L=>[(0,.arr 11 g (L.map dL) false false true)]) (λi L=>Z5 l i L) l
   (aw.auto) (Z5.start l) ?_ ?_
  . intro L hL K;have zOe:=hL.done (by omega);subst zOe;have hneg:¬ ((l.length / 2:Nat):Int)<(l.length:Int)-1-((l.length / 2:Nat):Int):=by omega
    generalize l.length / 2=h at hneg;simp[jF,U,hneg,-List.map_reverse];refine bO.mk (aw.auto (TL:=[]) (HL:=[(0,.arr 11 g (l.reverse.map dL) false false true)]) (n:=1) (hH:=by simp[-List.map_reverse])) ?_;simp[U,-List.map_reverse];exact aH.fu rfl rfl rfl (by simp[-List.map_reverse])
  . intro i L hi hL K hK;have fX:=hL.1;have M:i<L.length:=by omega
    have O:l.length-1-i<L.length:=by omega
    have bc:=hK _ (hL.step (by omega) M O);obtain⟨j,hj⟩:∃ j,l.length-1-i=j:=⟨_,rfl⟩;have ej:(l.length:Int)-1-(i:Int)=(j:Int):=by omega
    have hw1:=bI (i:=i);have cy:IntKind.i64.wrap ((j:Int)-1)=(l.length:Int)-1-((i+1:Nat):Int):=by rw[wrap_i64 (by omega) (by omega)];omega
    simp only[hj]at bc O;rw[ej];have qu:(i:Int)<(j:Int):=by omega
    have i1:i<l.length:=by omega
    have j1:j<l.length:=by omega
    have m1:i*11 / 11=i:=by omega
    have m2:i*11 % 11=0:=by omega
    have m3:j*11 / 11=j:=by omega
    have m4:j*11 % 11=0:=by omega
    have cb:i≠j:=by omega
    have eX:(((L.map dL).set i (dL L[j])).set j (dL L[i]))=((L.set i L[j]).set j L[i]).map dL:=by simp[wK,-bL]
    generalize (L.set i L[j]).set j L[i]=X at bc eX;simp only[bL L[i],bL L[j]]at eX;simp[jF,U,qu,i1,j1,m1,m2,m3,m4,fX,hw1,cy,cb,List.getElem_set,eX,-Int.natCast_add];exact bc _ _ (aw.auto)
 have e:(EI id g 11 (l.map dL) (l.reverse.map dL)).heap C=C.wr id (.arr 11 g (l.reverse.map dL) false false true):=OO (l':=l.reverse);rw[e]at key;exact key
def M6  
 (hQ:Q (.exit 0) (dW [(1,.ptr 0 0 0),(2,.ptr 1 0 0),(4,oV 2 ((dQ e).2.reverse.map dL))]) { H:=dW ([(0,.arr 11 0 [dL (dQ e).1] true false false),(1,.arr 11 0 [fH] true false false)]++oH 2 11 ((dQ e).2.reverse.map dL)),n:=3,log:=[] }) :
 ∀ (d:Nat) (x:Xp) (A:Z Xp),x.depth<=d->((dQ x).1=(dQ e).1/\A++(dQ x).2.reverse=(dQ e).2.reverse)->A.length+x.depth<=1001 ->
   ua I E 0 29 mW (bO 0 Q) (d+1) (dW [(1,.ptr 0 0 0),(2,.ptr 1 0 0),(4,oV 2 (A.map dL))]) { H:=dW ([(0,.arr 11 0 [dL x] true false false),(1,.arr 11 0 [fH] true false false)]++oH 2 11 (A.map dL)),n:=3,log:=[] }:=by
 intro d
 induction d with
 |zero=>intro x A h;rw[Xp.nE]at h;omega
 | succ d ih =>
   intro x A h he hb;refine lp hρ U aq λK hK=>?_
   by_cases ha:x.isApp=true
   . have hk:=Xp.Vu ha;have M:=Xp.rQ (Xp.Pk ha);rw[CL ha,List.reverse_append,List.reverse_singleton]at he;have k5:=(Xp.Fz.1 ha).1;have gR:=ih x.fn (A++[x.arg]) (by omega) ⟨he.1,by rw[gu];exact he.2⟩ (by simp;omega);have k1:∀ a B,A=a::B->(B.length+1+1)*152<=1048576:=by rintro a B rfl;simp at hb;omega
     generalize x.fn=f at hk gR;generalize x.arg=y at hk gR;rcases A with _|⟨a,A⟩
     all_goals first
      |simp[mW,U,eq_true k5,hk,k1 _ _ rfl,aY]
      |simp[mW,U,eq_true k5,hk]
     all_goals exact hK _ _ (gD (aw.auto (hH:=by simp[fH]) (hi:=by simp[fH])) gR)
   . rw[CK ha,List.reverse_nil,j5]at he;rw[<- he.1,<- he.2]at hQ;by_cases k5:x.kind=5
     . have nh:¬ (x.kids.length:Int)=2:=λh=>ha (Xp.Fz.2 ⟨k5,by omega⟩)
       rcases A with _|⟨a,A⟩<;>simp[mW,U,eq_true k5,nh]
       all_goals exact bO.mk (aw.auto (by simp[fH]) (by simp[fH]) (by simp[fH])) hQ
     . rcases A with _|⟨a,A⟩<;>simp[mW,U,eq_false k5]
       all_goals exact bO.mk (aw.auto (by simp[fH]) (by simp[fH]) (by simp[fH])) hQ
def OU(hR:E.dE 195=zmU)(hd:e.depth<=1000)(C:HS):aT I Pg 118 [enc e] C (enc (dQ e)) C:=by
 refine fn hρ U aq Tryz.func118 DL.2 rfl (by simp) ?_ C;simp[U];have K0:=oN e;change Ls I E 0 _ (.loop mW) _ _ _;refine nX (ru (gD (aw.auto (TL:=[(1,.ptr 0 0 0),(2,.ptr 1 0 0),(4,oV 2 (([]:Z Xp).map dL))]) (HL:=[(0,.arr 11 0 [dL e] true false false),(1,.arr 11 0 [fH] true false false)]++oH 2 11 (([]:Z Xp).map dL)) (n:=3) (hH:=by simp[fH]) (hi:=by simp[fH])) (M6 hρ U aq (e:=e) ?_ e.depth e [] (af _) ⟨rfl,by simp⟩ (by simp;omega))));generalize dQ e=R at K0;obtain⟨h,B⟩:=R;simp only at K0;obtain⟨A,rfl⟩:∃ A:Z Xp,B=A.reverse:=⟨B.reverse,by simp⟩;rw[List.reverse_reverse];have zHq:A.length<=5000:=by have:=K0.2.2;simp at this;omega
 rcases A with _|⟨a,A⟩
 . simp[U,fH,hR,zmU]
 . have zz9:=λ(C:HS) (id:Nat) (hg:C.H.get id=some (.arr 11 A.length ((a::A).map dL) false false true)) (hi:id<C.n)=>zmV (sz:=11) (F:=λl:Z Xp=>if l.length<=5000 then some l.reverse else none) (id:=id) (g:=A.length) (n:=A.length+1) (C:=C) (l:=a::A) (l':=(a::A).reverse) hg rfl hi (if_pos zHq)
   have zN2:∀ (id g:Nat) (es:Z (Z V)) (l':Z Xp) (C:HS),(EI id g 11 es (l'.map dL)).heap C=C.wr id (.arr 11 g (l'.map dL) false false true):=λ_ _ _ l' _=>OO (l':=l')
   simp[U,fH,hR,zmU,-List.reverse_cons];rw[zz9 _ 2 (by simp) (by simp)];simp[U,zN2,-List.reverse_cons,-List.map_reverse];rw[aZ (by simp)];exact zgQ _
end
def zlI:Valid I Pg 195 zmU:=Valid.DG (fo Tryz.func195 iM.2) λvs C D h=>by
 rcases zmW h with⟨rfl,rfl⟩|⟨id,g,l,l',hF,rfl,rfl,hg,hi⟩
 . exact Ri hρ (E:=EL []) rfl (ag aG)
 . obtain⟨M,rfl⟩:=bF hF;have:=Ti hρ (E:=EL []) rfl (ag aG) M hg hi;have e:=OO (α:=Xp) (id:=id) (g:=g) (sz:=11) (es:=l.map iC.cells) (l':=l.reverse) (C:=C);show aT I Pg _ _ C (.tuple []) (EmbD.heap (EI id g 11 (l.map iC.cells) (l.reverse.map iC.cells)) C);rw[e];exact this
def EC(e:Xp):Y (Xp×Z Xp):=if e.depth<=1000 then some (dQ e)else none
def zlD:Valid I Pg 118 (dH (cO EC)):=v1 (fo Tryz.func118 DL.2) λa r h C=>by
 obtain⟨M,rfl⟩:=bF h;exact OU hρ (E:=EL [(195,zmU)]) rfl (ag (ae (zlI hρ) aG)) rfl M C
end
def gU(f:α->Bool):Z α->Int->Int
 | [],_=>-1
 |x::l,i=>if f x=true then i else gU f l (i+1)
def Ah(f:α->Bool):∀ (l:Z α) (i:Int),0<=i->decide (0<=gU f l i)=l.any f:=by
 intro l
 induction l with
 |nil=>intro i h;simp[gU]
 | cons y l ih =>
   intro i h;rw[gU];split
   . rename_i e;simp[e,h]
   . rename_i e;rw[ih (i+1) (by omega)];simp[e]
def zjJ(g:Nat)(F:Am->Y Bool)(vs:Z V):Y V:=match vs with
 | [a,.func g' []]=>gd (Nat.beq g' g) (W (bo.dec a:Y (Z Am)) λl=>if l.length<=100000/\∀ x∈l,(F x).isSome=true then some (enc (gU (λx=>(F x).getD false) l 0))else none)
 |_=>none
def zkp(g:Nat)(F:Am->Y Bool)(vs:Z V):Y V:=match vs with
 | [a,.func g' []]=>gd (Nat.beq g' g) (W (bo.dec a:Y (Z Am)) λl=>if l.length<=100000/\∀ x∈l,(F x).isSome=true then some (enc (l.any λx=>(F x).getD false))else none)
 |_=>none
section
variable {I:Nat->Value}(hρ:J.Good I)
include hρ
section
variable {E:Env}(U:E.P=Pg)(aq:bH I E)
include U aq
def zsj(hc:E.dE 117=dH (cO F)){l:Z Am}(hl:l.length<=100000)(b6:∀ x∈l,(F x).isSome=true)(C:HS) :
 aT I Pg 194 [enc l,.func 117 []] C (enc (gU (λx=>(F x).getD false) l 0)) C:=by
 refine fn hρ U aq Tryz.func194 kg.2 rfl (by simp) ?_ C;generalize hr:gU (λx=>(F x).getD false) l 0=r;simp[U]
 refine vC hρ U aq l.length (nn:=0) (λi (_:Unit)=>[(0,.sl (l.map gL) false),(1,.func 117 []),(7,.int .i64 (l.length:Int)),(8,.int .i64 (i:Int))]) (λi _=>[]) (λi _=>gU (λx=>(F x).getD false) (l.drop i) (i:Int)=r) ()
  (aw.auto) (by simpa using hr) ?_ ?_
 . intro _ h K;rw[bz,gU]at h;simp[jG,U];refine bO.mk (aw.auto (TL:=[]) (HL:=[]) (n:=0)) ?_;simp[U,<- h]
 . intro i _ hi h K hK;have cj:(i:Int)<l.length:=by omega
   have cy:=bI (i:=i);have zN:(i*14) / 14=i:=by omega
   obtain⟨q,hq⟩:=bN.1 (b6 l[i] (az hi));rw[aK hi,gU,hq]at h;simp only[eu]at h
   cases q with
   | true =>
     rw[if_pos rfl]at h;simp[jG,U,hi,cj,zN,hc,hq];refine bO.mk (aw.auto (TL:=[(4,.int .i64 (i:Int))]) (HL:=[]) (n:=0)) ?_;simp[U,<- h]
   | false =>
     rw[if_neg (by decide)]at h;have bc:=hK () h;simp[jG,U,hi,cj,zN,hc,hq,cy,-Int.natCast_add];exact bc _ _ (aw.auto)
def zs7(hc:E.dE 194=dH (zjJ 117 F)){l:Z Am}(hl:l.length<=100000)(b6:∀ x∈l,(F x).isSome=true)(C:HS) :
 aT I Pg 116 [enc l,.func 117 []] C (enc (l.any λx=>(F x).getD false)) C:=by
 refine fn hρ U aq Tryz.func116 mX.2 rfl (by simp) ?_ C;have qS:=Ah (λx=>(F x).getD false) l 0 (fA _)
 have hv:zjJ 117 F [enc l,.func 117 []]=some (enc (gU (λx=>(F x).getD false) l 0)):=by
  unfold zjJ;show gd (Nat.beq _ _) (W (bo.dec (enc l)) _)=_;rw[bo.bZ,J.beq_true.2 rfl];show (if _ then _ else _)=_;rw[if_pos ⟨hl,b6⟩]
 generalize gU (λx=>(F x).getD false) l 0=x at qS hv;rw[<- qS];simp[U,hc];simp at hv;simp[hv,U]
end
def zIm(hv:Valid I Pg 117 (dH (cO F))):Valid I Pg 194 (dH (zjJ 117 F)):=Valid.dH (fo Tryz.func194 kg.2) λvs v h C=>by
 unfold zjJ at h;split at h
 . simp only[bE,J.beq_true,aA]at h;obtain⟨rfl,l,hl,h⟩:=h;obtain⟨⟨M,O⟩,rfl⟩:=bF h;rw[bo.bq _ _ hl];exact zsj hρ (E:=EL [(117,dH (cO F))]) rfl (ag (ae hv aG)) rfl M O C
 . cases h
def zIt(hv:Valid I Pg 117 (dH (cO F))):Valid I Pg 116 (dH (zkp 117 F)):=Valid.dH (fo Tryz.func116 mX.2) λvs v h C=>by
 unfold zkp at h;split at h
 . simp only[bE,J.beq_true,aA]at h;obtain⟨rfl,l,hl,h⟩:=h;obtain⟨⟨M,O⟩,rfl⟩:=bF h;rw[bo.bq _ _ hl];exact zs7 hρ (E:=EL [(194,dH (zjJ 117 F))]) rfl (ag (ae (zIm hρ hv) aG)) rfl M O C
 . cases h
end
def zjF(g:Nat)(F:Xp->Y Bool)(vs:Z V):Y V:=match vs with
 | [a,.func g' []]=>gd (Nat.beq g' g) (W (bo.dec a:Y (Z Xp)) λl=>if l.length<=100000/\∀ x∈l,(F x).isSome=true then some (enc (gU (λx=>(F x).getD false) l 0))else none)
 |_=>none
def zkm(g:Nat)(F:Xp->Y Bool)(vs:Z V):Y V:=match vs with
 | [a,.func g' []]=>gd (Nat.beq g' g) (W (bo.dec a:Y (Z Xp)) λl=>if l.length<=100000/\∀ x∈l,(F x).isSome=true then some (enc (l.any λx=>(F x).getD false))else none)
 |_=>none
section
variable {I:Nat->Value}(hρ:J.Good I)
include hρ
section
variable {E:Env}(U:E.P=Pg)(aq:bH I E)
include U aq
def zse{F:Xp->Y Bool}(hc:E.dE 119=dH (cO F))(hl:l.length<=100000)(b6:∀ x∈l,(F x).isSome=true)(C:HS) :
 aT I Pg 192 [enc l,.func 119 []] C (enc (gU (λx=>(F x).getD false) l 0)) C:=by
 refine fn hρ U aq Tryz.func192 fZ.2 rfl (by simp) ?_ C;generalize hr:gU (λx=>(F x).getD false) l 0=r;simp[U]
 refine vC hρ U aq l.length (nn:=0) (λi (_:Unit)=>[(0,.sl (l.map dL) false),(1,.func 119 []),(7,.int .i64 (l.length:Int)),(8,.int .i64 (i:Int))]) (λi _=>[]) (λi _=>gU (λx=>(F x).getD false) (l.drop i) (i:Int)=r) ()
  (aw.auto) (by simpa using hr) ?_ ?_
 . intro _ h K;rw[bz,gU]at h;simp[d9,U];refine bO.mk (aw.auto (TL:=[]) (HL:=[]) (n:=0)) ?_;simp[U,<- h]
 . intro i _ hi h K hK;have cj:(i:Int)<l.length:=by omega
   have cy:=bI (i:=i);have zN:(i*11) / 11=i:=by omega
   obtain⟨q,hq⟩:=bN.1 (b6 l[i] (az hi));rw[aK hi,gU,hq]at h;simp only[eu]at h
   cases q with
   | true =>
     rw[if_pos rfl]at h;simp[d9,U,hi,cj,zN,hc,hq];refine bO.mk (aw.auto (TL:=[(4,.int .i64 (i:Int))]) (HL:=[]) (n:=0)) ?_;simp[U,<- h]
   | false =>
     rw[if_neg (by decide)]at h;have bc:=hK () h;simp[d9,U,hi,cj,zN,hc,hq,cy,-Int.natCast_add];exact bc _ _ (aw.auto)
def zs3{F:Xp->Y Bool}(hc:E.dE 192=dH (zjF 119 F))(hl:l.length<=100000)(b6:∀ x∈l,(F x).isSome=true)(C:HS) :
 aT I Pg 113 [enc l,.func 119 []] C (enc (l.any λx=>(F x).getD false)) C:=by
 refine fn hρ U aq Tryz.func113 gQ.2 rfl (by simp) ?_ C;have qS:=Ah (λx=>(F x).getD false) l 0 (fA _)
 have hv:zjF 119 F [enc l,.func 119 []]=some (enc (gU (λx=>(F x).getD false) l 0)):=by
  unfold zjF;show gd (Nat.beq _ _) (W (bo.dec (enc l)) _)=_;rw[bo.bZ,J.beq_true.2 rfl];show (if _ then _ else _)=_;rw[if_pos ⟨hl,b6⟩]
 generalize gU (λx=>(F x).getD false) l 0=x at qS hv;rw[<- qS];simp[U,hc];simp at hv;simp[hv,U]
end
def zIi{F:Xp->Y Bool}(hv:Valid I Pg 119 (dH (cO F))):Valid I Pg 192 (dH (zjF 119 F)):=Valid.dH (fo Tryz.func192 fZ.2) λvs v h C=>by
 unfold zjF at h;split at h
 . simp only[bE,J.beq_true,aA]at h;obtain⟨rfl,l,hl,h⟩:=h;obtain⟨⟨M,O⟩,rfl⟩:=bF h;rw[bo.bq _ _ hl];exact zse hρ (E:=EL [(119,dH (cO F))]) rfl (ag (ae hv aG)) rfl M O C
 . cases h
def zIp{F:Xp->Y Bool}(hv:Valid I Pg 119 (dH (cO F))):Valid I Pg 113 (dH (zkm 119 F)):=Valid.dH (fo Tryz.func113 gQ.2) λvs v h C=>by
 unfold zkm at h;split at h
 . simp only[bE,J.beq_true,aA]at h;obtain⟨rfl,l,hl,h⟩:=h;obtain⟨⟨M,O⟩,rfl⟩:=bF h;rw[bo.bq _ _ hl];exact zs3 hρ (E:=EL [(192,dH (zjF 119 F))]) rfl (ag (ae (zIi hρ hv) aG)) rfl M O C
 . cases h
end
def EG(d:Nat)(e:Xp):Y Bool:=if e.fit d then some (jk e)else none
def zmI(d:Nat)(a:Am):Y Bool:=if a.body.fit d then some (!jk a.body)else none
def zmH(d:Nat)(e:Xp):Y Bool:=if e.fit d then some (!jk e)else none
section
variable {I:Nat->Value}(hρ:J.Good I)
include hρ
section
variable {E:Env}(U:E.P=Pg)(aq:bH I E)
include U aq
def Nb(hS:E.dE 58=dH (cO (EG d)))(h:a.body.fit d)(C:HS):aT I Pg 117 [enc a] C (enc (!jk a.body)) C:=by
 refine fn hρ U aq Tryz.func117 FW.2 rfl (by simp) ?_ C;cases hv:jk a.body<;>simp[U,hS,EG,h,hv]
def Na(hS:E.dE 58=dH (cO (EG d))){a:Xp}(h:a.fit d)(C:HS):aT I Pg 119 [enc a] C (enc (!jk a)) C:=by
 refine fn hρ U aq Tryz.func119 FV.2 rfl (by simp) ?_ C;cases hv:jk a<;>simp[U,hS,EG,h,hv]
def OZ(hS:E.dE 58=dH (cO (EG d)))(hA:E.dE 116=dH (zkp 117 (zmI d)))(hX:E.dE 113=dH (zkm 119 (zmH d)))(hP:E.dE 118=dH (cO EC))
  (he:e.fit (d+1)) (C:HS):aT I Pg 58 [enc e] C (enc (jk e)) C:=by
 refine fn hρ U aq Tryz.func58 DN.2 rfl (by simp) ?_ C;rw[JQ];obtain⟨w1,w2,_,_⟩:=Xp.CF he.2.2;by_cases k1:e.kind=1
 . rw[if_pos (.inl k1)];simp[U,eq_true k1]
 by_cases k2:e.kind=2
 . rw[if_pos (.inr k2)];simp[U,eq_false k1,eq_true k2]
 rw[if_neg (by omega)];by_cases k4:e.kind=4
 . rw[if_pos k4];by_cases hl:e.kids.length=1
   . have hk:=Xp.zgO hl;have hf:e.fn.fit d:=he.kid (by rw[hk];simp);have xf:((e.kids.length:Int)=1)=True:=eq_true (by omega);simp[U,eq_false k1,eq_false k2,eq_true k4,hk,hS,EG,hf]
   . have xf:((e.kids.length:Int)=1)=False:=eq_false (by omega);simp[U,eq_false k1,eq_false k2,eq_true k4,hl,xf]
 rw[if_neg k4];by_cases k8:e.kind=8
 . rw[if_pos k8]
   have lB:zkp 117 (zmI d) [(enc e.cf:V),.func 117 []]=some (enc (!e.cf.all λa=>jk a.body)):=by
    have hF:∀ a∈e.cf,zmI d a=some (!jk a.body):=λa ha=>if_pos (he.arm ha)
    unfold zkp;show gd (Nat.beq _ _) (W (bo.dec (enc e.cf:V):Y (Z Am)) _)=_;rw[bo.bZ,J.beq_true.2 rfl];show (if _ then _ else _)=_;rw[if_pos ⟨w2,λx hx=>by rw[hF x hx];rfl⟩,Vw (g:=λa=>!jk a.body) λx hx=>by rw[hF x hx];rfl,zhK]
   generalize (e.cf.all λa=>jk a.body)=b at lB ⊢;simp at lB;by_cases hl:e.kids.length=1
   . have hk:=Xp.zgO hl;by_cases hf:e.fn.kind=1
     . cases b<;>simp[U,eq_false k1,eq_false k2,eq_false k4,eq_true k8,hk,eq_true hf,hA,lB]
     . simp[U,eq_false k1,eq_false k2,eq_false k4,eq_true k8,hk,eq_false hf]
   . have xf:((e.kids.length:Int)=1)=False:=eq_false (by omega);simp[U,eq_false k1,eq_false k2,eq_false k4,eq_true k8,hl,xf]
 rw[if_neg k8];by_cases k5:e.kind=5
 . rw[if_pos k5];have vA:EC e=some (dQ e):=if_pos he.2.1
   have lB:zkm 119 (zmH d) [(enc (dQ e).2:V),.func 119 []]=some (enc (!(dQ e).2.all jk)):=by
    have hF:∀ a∈(dQ e).2,zmH d a=some (!jk a):=λa ha=>if_pos (he.arg ha)
    unfold zkm;show gd (Nat.beq _ _) (W (bo.dec (enc (dQ e).2:V):Y (Z Xp)) _)=_;rw[bo.bZ,J.beq_true.2 rfl];show (if _ then _ else _)=_;rw[if_pos ⟨by have:=(oN e).2.2;have:=he.2.1;omega,λx hx=>by rw[hF x hx];rfl⟩,Vw (g:=λa=>!jk a) λx hx=>by rw[hF x hx];rfl,zhK]
   generalize dQ e=R at vA lB ⊢;obtain⟨h,A⟩:=R;simp only at lB ⊢;generalize A.all jk=b at lB ⊢;simp at lB;by_cases M:h.kind=1
   . cases b<;>simp[U,eq_false k1,eq_false k2,eq_false k4,eq_false k8,eq_true k5,hP,vA,eq_true M,hX,lB]
   . by_cases O:h.kind=2
     . cases b<;>simp[U,eq_false k1,eq_false k2,eq_false k4,eq_false k8,eq_true k5,hP,vA,eq_false M,eq_true O,hX,lB]
     . simp[U,eq_false k1,eq_false k2,eq_false k4,eq_false k8,eq_true k5,hP,vA,eq_false M,eq_false O]
 rw[if_neg k5];simp[U,eq_false k1,eq_false k2,eq_false k4,eq_false k8,eq_false k5]
end
theorem Xp.fit.pos(h:e.fit 0):False:=by have:=Xp.nE e;have:=h.1;omega
def zqK (d:Nat):Valid I Pg 58 (dH (cO (EG d))):=by
 induction d with
 |zero=>exact v1 (fo Tryz.func58 DN.2) λa r h C=>by obtain⟨M,rfl⟩:=bF h;exact(Xp.fit.pos hρ M).elim
 | succ d ih =>
   have hA:=zIt hρ (F:=zmI d) (v1 (fo Tryz.func117 FW.2) λa r h C=>by obtain⟨M,rfl⟩:=bF h;exact Nb hρ (E:=EL [(58,dH (cO (EG d)))]) rfl (ag (ae ih aG)) rfl M C);have hX:=zIp hρ (F:=zmH d) (v1 (fo Tryz.func119 FV.2) λa r h C=>by obtain⟨M,rfl⟩:=bF h;exact Na hρ (E:=EL [(58,dH (cO (EG d)))]) rfl (ag (ae ih aG)) rfl M C)
   exact v1 (fo Tryz.func58 DN.2) λa r h C=>by
    obtain⟨M,rfl⟩:=bF h
    exact OZ hρ (E:=EL [(58,dH (cO (EG d))),(116,dH (zkp 117 (zmI d))),(113,dH (zkm 119 (zmH d))),(118,dH (cO EC))]) rfl
     (ag (ae ih (ae hA (ae hX (ae (zlD hρ) aG))))) rfl rfl rfl rfl M C
def YB:J.Spec:=dH (cO λe:Xp=>if e.fit 1000 then some (jk e)else none)
def zvG:Valid I Pg 58 YB:=zqK hρ 1000
end
def uU(bits:Int)(b5:Z Int):EmbD where
 k:=0
 k':=1
 π:=λi=>i
 OL:=[]
 cI:=[(0,box (iC.cells (iB b5 (bu bits)).2.2.2))]
 dq:=[enc bits,enc b5]
 v0:=.tuple [enc (bu bits),enc (iB b5 (bu bits)).1,enc (iB b5 (bu bits)).2.1,enc (iB b5 (bu bits)).2.2.1,.ptr 0 0 0]
def Nj(vs:Z V)(C:HS):Y EmbD:=match vs with
 | [bv,cv]=>W (bo.dec bv:Y Int) λbits=>W (bo.dec cv:Y (Z Int)) λb5=>gd (et (Nat.ble (dA b5) 60) (ig C C.n)) (some (uU bits b5))
 |_=>none
@[simp] def zzX {bv cv:V} :Nj [bv,cv] C=W (bo.dec bv:Y Int) λbits=>W (bo.dec cv:Y (Z Int)) λb5=>gd (et (Nat.ble (dA b5) 60) (ig C C.n)) (some (uU bits b5)):=(rfl)
def zbO{bits:Int}{l:Z Entry}(h:iB b5 (bu bits)=(l,g,e,t)):(uU bits b5).val C=.tuple [enc (bu bits),enc l,enc g,enc e,.ptr C.n 0 0]:=by
 have e0:(uU bits b5).v0=.tuple [enc (bu bits),enc l,enc g,enc e,.ptr 0 0 0]:=by show V.tuple _=_;rw[h]
 show (uU bits b5).v0.cq _=_;rw[e0];have hv:∀ (π:Nat->Nat) (t:G),(enc t:V).jl π=enc t:=λπ t=>V.uN (V.dU (zV t))
 have hx:∀ (π:Nat->Nat),(enc e:V).jl π=enc e:=λπ=>V.uN (V.dU (show (enc e:V).pure=true by simp))
 show V.tuple [(enc (bu bits):V).jl _,(enc l:V).jl _,(enc g:V).jl _,(enc e:V).jl _,(V.ptr 0 0 0).jl _]=_;rw[hv,hx];rfl
def Y7{bits:Int}{l:Z Entry}(h:iB b5 (bu bits)=(l,g,e,t)):(uU bits b5).heap C={ H:=C.H.set C.n (box (iC.cells t)),n:=C.n+1,log:=C.n::C.log }:=by
 have e:(uU bits b5).cI=[(0,box (iC.cells t))]:=by show [(0,_)]=_;rw[h]
 show Dn C 0 1 _ (uU bits b5).cI=_;rw[e];rfl
section
variable {I:Nat->Value}(hρ:J.Good I)
include hρ
section
variable {E:Env}(U:E.P=Pg)(aq:bH I E)
include U aq
def Ur(h3:E.dE 9=dH (cO λbits:Int=>some (bu bits)))(h4:E.dE 55=H6 (Iu zs2))(h5:E.dE 23=dH (cO λl:Z Entry=>if l.length<=10000 then some (l.map (·.name))else none))(h6:E.dE 22=H6 (Ir (xP 3)))
 {bits:Int}  (hl:b5.length<=60)  (rE:C.H.get C.n=none) :
 aT I Pg 21 [enc bits,enc b5] C ((uU bits b5).v0.cq (news C.n 0 λi=>i)) (Dn C 0 1 (λi=>i) (uU bits b5).cI):=by
 have htp:(⟨b5,0⟩:Tp).ok:=⟨fA _,by show b5.length<=100000;omega⟩;have zKo:=Jk bits;have GP:=uA bits;rcases hm:iB b5 (bu bits)with⟨rl,rg,re,rt⟩;have ov:(uU bits b5).v0=.tuple [enc (bu bits),enc rl,enc rg,enc re,.ptr 0 0 0]:=by show V.tuple _=_;rw[hm]
 have R7:(uU bits b5).cI=[(0,box (iC.cells rt))]:=by show [(0,_)]=_;rw[hm]
 refine em hρ U aq (D:=uU bits b5) Tryz.func21 Oe.2 rfl ⟨rfl,rfl,aW _,λp hp=>(by cases hp),λp hp=>?_,?_,λv hv=>?_⟩ ?_ ⟨rfl,λi j hi=>absurd hi (lQ _),λp hp=>(by cases hp),λi hi=>?_,λi hi=>absurd hi (lQ _)⟩
 . obtain rfl:=ay.1 hp;exact⟨rfl,rfl⟩
 . rw[ov,R7];show ([enc (bu bits),enc rl,enc rg,enc re,V.ptr 0 0 0].all (V.zM _))=true;have hp:∀ t:G,(enc t:V).zM (cr [(0,box (iC.cells rt))])=true:=λt=>V.dU (zV t)
   have hp2:(enc re:V).zM (cr [(0,box (iC.cells rt))])=true:=V.dU (show (enc re:V).pure=true by simp);simp only[iW,rz,fM,hp,hp2,gH];rfl
 . have hv:v∈[(enc bits:V),enc b5]:=hv;simp only[aB,aS,or_false]at hv;rcases hv with rfl|rfl<;>rfl
 . rw[ov,R7];show Wp I E 0 _ _ _ { H:=dW [],n:=0,log:=[] } (J.Leaves _ _ (aH 0 _ _));rw[show Tryz.f21.ntmps=33 from rfl];have f1:zs2 ⟨b5,0⟩ (bu bits)=some (lK ⟨b5,0⟩ (bu bits)):=if_pos ⟨htp,zKo.1,zkl GP⟩;obtain⟨c1,c2⟩:=Ej (D:=bu bits) htp;unfold iB at hm;generalize zOg:bu bits=D at hm zKo f1 c1 c2 ⊢;generalize lK ⟨b5,0⟩ D=c at hm f1 c1 c2;obtain⟨t1,ctx,goal⟩:=c;simp only at hm c1 c2
   have f2:xP 3 t1 D (ctx.map (·.name)) 3=some (gJ 3 t1 D (ctx.map (·.name))):=by
    unfold xP;rw[if_pos ⟨c1,zKo,by simp;omega,by omega,by omega⟩];rfl
   have f3:ctx.length<=10000:=by omega
   rcases hq:gJ 3 t1 D (ctx.map (·.name))with⟨t2,x⟩;rw[hq]at hm f2;cases hm;generalize hN:rl.map (·.name)=N at f2;simp[U,h3,zOg,h4,f1,h5,f3,hN,h6,f2];exact aH.Za (λk=>if k=0 then 7 else k) rfl rfl ⟨rfl,rfl⟩ (by simp)
 . obtain rfl:i=0:=Nat.lt_one_iff.1 hi;exact rE
end
def zqO:Valid I Pg 21 (sj Nj):=Valid.DG (fo Tryz.func21 Oe.2) λvs C D h=>by
 unfold Nj at h;split at h
 . simp only[aA,bE,dx,gY,aJ,dI]at h;obtain⟨bits,hb,b5,hc,⟨M,O⟩,h⟩:=h;cases h;rw[bo.bq _ _ hb,bo.bq _ _ hc]
   exact Ur hρ (E:=EL [(9,dH (cO λbits:Int=>some (bu bits))),(55,H6 (Iu zs2)),(23,dH (cO λl:Z Entry=>if l.length<=10000 then some (l.map (·.name))else none)),(22,H6 (Ir (xP 3)))]) rfl
    (ag (ae (zvN hρ) (ae (zlN hρ) (ae (zvK hρ) (ae (zBL hρ 3) aG))))) rfl rfl rfl rfl M O
 . cases h
end
def wX(d:Nat)(t:G):Y Int:=if t.ok=true/\t.size<=d/\d<=4000000000000000000 then some (t.size:Int)else none
section
variable {I:Nat->Value}(hρ:J.Good I)
include hρ
section
variable {E:Env}(U:E.P=Pg)(aq:bH I E)
include U aq
def Rb(hc:E.dE 104=dH (cO (wX d)))(lj:d+1<=4000000000000000000){t:G}(ht:t.ok=true)(hd:t.size<=d+1)(C:HS):aT I Pg 104 [enc t] C (enc (t.size:Int)) C:=by
 refine fn hρ U aq Tryz.func104 Ao.2 rfl (by simp) ?_ C;have hlen:=G.wW ht;have b8:=G.size_eq t;have ef:=(G.oF.1 ht).2;obtain⟨tk,tn,ti,th,tl⟩:=t;simp only[G.fC]at hlen b8 ef;generalize (G.mk tk tn ti th tl).size=yai at b8 hd;simp[U]
 refine vC hρ U aq tl.length (nn:=0) (λi (r:Nat)=>[(3,.int .i64 (r:Int)),(7,.sl (tl.map au) false),(8,.int .i64 (tl.length:Int)),(9,.int .i64 (i:Int))]) (λ_ _=>[]) (λi r=>r+G.bj (tl.drop i)=yai) 1
  (aw.auto (hi:=by first|rfl|simp) (hk:=by first|rfl|simp)) (by simp;omega) ?_ ?_
 . intro r h K;rw[bz,G.bj]at h;have e:r=yai:=by omega
   subst e;simp[FT,U];refine bO.mk (aw.auto (TL:=[(3,.int .i64 (r:Int))]) (HL:=[]) (n:=0) (hi:=by first|rfl|simp) (hk:=by first|rfl|simp)) ?_;simp[U]
 . intro i r hi h K hK;have cj:(i:Int)<tl.length:=by omega
   have cy:=bI (i:=i);rw[aK hi,G.bj]at h;have rk:=ef _ (az hi);obtain⟨x,hx⟩:∃ x,tl[i]=x:=⟨_,rfl⟩;rw[hx]at h rk;have Bs:x.size<=d:=by have:=G.Fp (hx ▸ az hi:x∈tl);omega
   have hF:wX d x=some (x.size:Int):=if_pos ⟨rk,Bs,by omega⟩;have bc:=hK (r+x.size) (by omega);have rS:IntKind.i64.wrap ((r:Int)+(x.size:Int))=((r+x.size:Nat):Int):=by rw[wrap_i64 (by omega) (by omega)];omega
   clear hK;generalize x.size=z at hF bc rS;cases x;simp[FT,U,hi,cj,hx,hc,hF,rS,cy,-Int.natCast_add];exact bc _ _ (aw.auto (hi:=by first|rfl|simp) (hk:=by first|rfl|simp))
end
def Yc(d:Nat):Valid I Pg 104 (dH (cO (wX d))):=by
 induction d with
 | zero =>
   refine v1 (fo Tryz.func104 Ao.2) λa r h C=>?_
   obtain⟨⟨M,O,h3⟩,rfl⟩:=bF h;have:=G.size_pos a;omega
 | succ d ih =>
   refine v1 (fo Tryz.func104 Ao.2) λa r h C=>?_
   obtain⟨⟨M,O,h3⟩,rfl⟩:=bF h;exact Rb hρ (E:=EL [(104,dH (cO (wX d)))]) rfl (ag (ae ih aG)) rfl h3 M O C
end
def xB(f l:Nat)(s:Z Nat):Bool:=decide (1<=s.length)&&decide (s.length<=12)&&decide (f<=s.headD 0)&&decide (s.headD 0<=l)&&s.all Di&&decide (s ∉ oZ)
theorem zbJ(s:Z Nat):xB 97 122 s=j6 s:=by
 rw[dF];rcases s with _|⟨c,s⟩
 . simp[xB,j6,Wu]
 . simp only[xB,j6,Wu,rj,aQ,decide_eq_true_eq,List.headD_cons,List.isEmpty_cons,Bool.not_false]
   grind
def zbI (s:Z Nat):xB 65 90 s=Be s:=by
 rw[dF];rcases s with _|⟨c,s⟩
 . simp[xB,Be,Wu]
 . by_cases hk:(c::s)∈oZ
   . have M:Be (c::s)=false:=by
      simp only[oZ,aB,aS,or_false]at hk;rcases hk with e|e|e|e|e|e|e<;>rw[e]<;>rfl
     have O:xB 65 90 (c::s)=false:=by unfold xB;rw[decide_eq_false (by simpa using hk:¬ (c::s) ∉ oZ)];simp
     rw[M,O]
   . simp only[xB,Be,Wu,ra,aQ,decide_eq_true_eq,List.headD_cons,List.isEmpty_cons,Bool.not_false];constructor
     . rintro ⟨⟨⟨⟨⟨a,b⟩,c⟩,d⟩,e⟩,f⟩;exact⟨⟨⟨e,trivial⟩,c,d⟩,b⟩
     . rintro ⟨⟨⟨e,_⟩,c,d⟩,b⟩;exact⟨⟨⟨⟨⟨by simp,b⟩,c⟩,d⟩,e⟩,hk⟩
def ZO(s:Z Nat)(n:Int):Bool:=if s=[45,62]then decide (n=2)else if s=[73,110,116]then decide (n=0)else Be s&&decide (n<=4)
section
variable {I:Nat->Value}(hρ:J.Good I)
include hρ
section
variable {E:Env}(U:E.P=Pg)(aq:bH I E)
include U aq
def SE{f l:tW}(hl:s.length<2^63)(C:HS):aT I Pg 184 [enc s,enc f,enc l] C (enc (xB f.n l.n s)) C:=by
 refine fn hρ U aq Tryz.func184 GV.2 rfl (by simp) ?_ C;obtain⟨f⟩:=f;obtain⟨l⟩:=l;by_cases h0:s=[]
 . subst h0;simp[U,xB]
 have oR:0<s.length:=bT.2 h0;have zhj:1<=s.length:=oR;have kc:¬ (s.length:Int)<1:=by omega
 by_cases GS:s.length<=12
 case neg =>
  have SZ:(12:Int)<s.length:=by omega
  simp[U,xB,kc,GS,SZ]
 have SZ:¬ (12:Int)<s.length:=by omega
 have hhd:s.headD 0=s[0]:=by
  rcases s with _|⟨c,s⟩
  . exact absurd rfl h0
  . rfl
 by_cases hf:f<=s[0]
 case neg =>
  have AG:(s[0]:Int)<f:=by omega
  have hz:xB f l s=false:=by unfold xB;rw[hhd,decide_eq_false hf];simp
  simp[U,hz,kc,GS,SZ,oR,zhj,hf,AG]
 have AG:¬ (s[0]:Int)<f:=by omega
 by_cases hg:s[0]<=l
 case neg =>
  have Xs:(l:Int)<s[0]:=by omega
  have hz:xB f l s=false:=by unfold xB;rw[hhd,decide_eq_false hg];simp
  simp[U,hz,kc,GS,SZ,oR,zhj,hf,AG,hg,Xs]
 have Xs:¬ (l:Int)<s[0]:=by omega
 have nB:xB f l s=(s.all Di&&decide (s ∉ oZ)):=by
  unfold xB;rw[hhd,decide_eq_true zhj,decide_eq_true GS,decide_eq_true hf,decide_eq_true hg];rfl
 generalize hr:xB f l s=r at nB;simp[U,kc,SZ,oR,AG,Xs]
 refine vC hρ U aq s.length (nn:=0) (λi (_:Unit)=>[(0,.str s),(31,.int .i64 (s.length:Int)),(32,.int .i64 (i:Int))]) (λi _=>[]) (λi _=>(s.take i).all Di=true) ()
  (aw.auto) (by simp) ?_ ?_
 . intro _ he K;rw[gN]at he;rw[he,gH]at nB;subst nB;simp[Bw,U];refine bO.mk (aw.auto (TL:=[(0,.str s)]) (HL:=[]) (n:=0)) ?_;clear hr hhd hf AG hg Xs he GS SZ oR zhj kc hl;by_cases k1:s=[100,97,116,97]
   . subst k1;simp[U,oZ]
   by_cases k2:s=[108,101,116]
   . subst k2;simp[U,oZ]
   by_cases k3:s=[114,101,99]
   . subst k3;simp[U,oZ]
   by_cases k4:s=[105,110]
   . subst k4;simp[U,oZ]
   by_cases k5:s=[99,97,115,101]
   . subst k5;simp[U,oZ]
   by_cases k6:s=[111,102]
   . subst k6;simp[U,oZ]
   by_cases k7:s=[101,110,100]
   . subst k7;simp[U,oZ]
   simp[U,oZ,k1,k2,k3,k4,k5,k6,k7]
 . intro i _ hi he K hK;have cj:(i:Int)<s.length:=by omega
   have cy:=bI (i:=i)
   have hnx:Di s[i]=true->(s.take (i+1)).all Di=true:=λhb=>by
    rw[dK,ax hi,List.all_append,he];simp[hb]
   have LL:Di s[i]=false->r=false:=λhb=>by
    rw[nB,List.all_eq_false.2 ⟨_,az hi,by simp[hb]⟩,sD]
   clear hr nB hhd hf AG hg Xs he GS SZ kc;have q1:((97:Int)<=(s[i]:Int))↔97<=s[i]:=by omega
   have q2:((s[i]:Int)<=122)↔s[i]<=122:=by omega
   have q3:((65:Int)<=(s[i]:Int))↔65<=s[i]:=by omega
   have q4:((s[i]:Int)<=90)↔s[i]<=90:=by omega
   have q5:((s[i]:Int)<48)↔¬ 48<=s[i]:=by omega
   have q6:((57:Int)<(s[i]:Int))↔¬ s[i]<=57:=by omega
   have q7:((s[i]:Int)=95)↔s[i]=95:=by omega
   have bc:=λh=>hK () (hnx h)
   clear hK hnx;by_cases a1:97<=s[i]<;>by_cases a2:s[i]<=122<;>by_cases a3:65<=s[i]<;>by_cases a4:s[i]<=90<;>try omega
   all_goals by_cases a5:48<=s[i]<;>by_cases a6:s[i]<=57<;>by_cases a7:s[i]=95<;>try omega
   all_goals
    first
    | (have hb:Di s[i]=true:=by simp[Di,rj,ra,zfd,a1,a2,a3,a4,a5,a6,a7]
       have bc:=bc hb;clear LL hb;simp[Bw,U,hi,cj,cy,q1,q2,q3,q4,q5,q6,q7,a1,a2,a3,a4,a5,a6,a7,-Int.natCast_add]
       exact bc _ _ (aw.auto))
    | (have hb:Di s[i]=false:=by simp[Di,rj,ra,zfd,a1,a2,a3,a4,a5,a6,a7]
       have LL:=LL hb;subst LL;clear bc hb;simp[Bw,U,hi,cj,cy,q1,q2,q3,q4,q5,q6,q7,a1,a2,a3,a4,a5,a6,a7,-Int.natCast_add];refine bO.mk (aw.auto (TL:=[(6,.bool false)]) (HL:=[]) (n:=0)) ?_
       simp[U])
def Ht(hN:E.dE 184=dH (tZ λ(s:Z Nat) (f l:tW)=>if s.length<2^63 then some (xB f.n l.n s)else none))(hl:s.length<2^63)(C:HS):aT I Pg 185 [enc s,enc n] C (enc (ZO s n)) C:=by
 refine fn hρ U aq Tryz.func185 BO.2 rfl (by simp) ?_ C;simp only[show (2:Nat)^63=9223372036854775808 from rfl]at hN hl;have d1:(bo.dec (V.int .u8 65):Y tW)=some ⟨65⟩:=rfl;have d2:(bo.dec (V.int .u8 90):Y tW)=some ⟨90⟩:=rfl;by_cases ha:s=[45,62]
 . subst ha;simp[U,ZO]
 by_cases hb:s=[73,110,116]
 . subst hb;simp[U,ZO]
 have hu:=zbI s;cases hc:Be s<;>rw[hc]at hu<;>simp[U,ZO,ha,hb,hN,hl,d1,d2,hu,hc]
end
def zbH:J.Spec:=dH (tZ λ(s:Z Nat) (f l:tW)=>if s.length<2^63 then some (xB f.n l.n s)else none)
def zt5:Valid I Pg 184 zbH:=v3 (fo Tryz.func184 GV.2) λa b c r h C=>by
 obtain⟨M,rfl⟩:=bF h;exact SE hρ (E:=EL []) rfl (ag aG) M C
def zhx:J.Spec:=dH (dC λ(s:Z Nat) (n:Int)=>if s.length<2^63 then some (ZO s n)else none)
def Yg:Valid I Pg 185 zhx:=v2 (fo Tryz.func185 BO.2) λa b r h C=>by
 obtain⟨M,rfl⟩:=bF h;exact Ht hρ (E:=EL [(184,zbH)]) rfl (ag (ae (zt5 hρ) aG)) rfl M C
end
end Go.Proofs.YtfloillkpbhhhaaGreat
