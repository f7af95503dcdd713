import Derived.Test.YtfloillkpbhhhaaGreatNK10
import Derived.Test.YtfloillkpbhhhaaGreatJK12
import Derived.Test.YtfloillkpbhhhaaGreatJK10
import Derived.Test.YtfloillkpbhhhaaGreatNK9
import Derived.Test.YtfloillkpbhhhaaGreatJK11
set_option linter.all false
noncomputable section
namespace Go.Proofs.YtfloillkpbhhhaaGreat
open Go.J
open Go.J.bo (enc)
set_option maxRecDepth 100000
set_option maxHeartbeats 4000000
variable {b c0:Bool}{e:Entry}{F:Entry->Y Bool}{E:Env}{Q:Ex->PT V->HS->Prop}{g t t0 t2:G}{C:HS}{r:Int}{a0 a2 b0 b2 d f i kk m n:Nat}{T:PT V}{c:Scheme}{X:Z Am}{Ff eJ cw:Z Change}{D:Z Decl}{l:Z Entry}{l0 l3 tl:Z G}{da cR:Z Slot}
section
variable {I:Nat->Value}(hρ:J.Good I)
include hρ
section
variable (U:E.P=Pg)(aq:bH I E)
include U aq
def zkT (Ny:E.dE 120=qX) (hM:E.dE 127=ED) (hP:E.dE 126=ER)   {ctx:Z Entry}  {args fs:Z G}  {am:Am}   (me:kk=1\/kk=3\/kk=4)
 (hc:ctx.length<=900) (hv:am.vars.length<=90) (hfv:fs.length=am.vars.length)      {R:Y (Z Entry)} (hR:Aw [] am.vars fs ctx=R)
 {sz:Nat} (b8:sz=127)   
 (hT:aw kk T C (dW [(0,.ptr 0 0 0),(1,.sl (ctx.map df) false),(6,.ptr 4 0 0),(13,.sl (args.map au) false),(14,.bool true),(16,.ptr 5 0 0),(17,.sl (fs.map au) false),(19,.sl (ctx.map df) false),(68,.sl (X.map gL) false),(69,.int .i64 (X.length:Int)),(70,.int .i64 (i:Int)),(97,.sl (am.vars.map cF) false),(98,.int .i64 (am.vars.length:Int)),(99,.int .i64 ((0:Nat):Int))]) { H:=dW ([(0,.arr (n+4) 0 [.sl (D.map aP) false::.own 1 a0 0 da.length none::.own 2 b0 0 eJ.length none::.own 3 l0.length 0 (l0.length+1) none::jS 4 n] true false false),(1,.arr 8 a0 (da.map dG) false false true),(2,.arr 10 b0 (eJ.map bW) false false true),(3,.arr 5 l0.length (au t0::l0.map au) false false true),(4,box (au g))]++[(5,box (gL am))]),n:=6,log:=[] })
 (DP:R=none->Q .ret (dW [(8,.bool false)]) { H:=dW [(0,.arr (n+4) 0 [.sl (D.map aP) false::.own 1 a0 0 da.length none::.own 2 b0 0 eJ.length none::.own 3 l0.length 0 (l0.length+1) none::jS 4 n] true false false),(1,.arr 8 a0 (da.map dG) false false true),(2,.arr 10 b0 (eJ.map bW) false false true),(3,.arr 5 l0.length (au t0::l0.map au) false false true)],n:=6,log:=[] })
 (E1:∀ c,R=some c->c.length<=1000->Q (.exit 2) (dW [(0,.ptr 0 0 0),(1,.sl (ctx.map df) false),(6,.ptr 4 0 0),(13,.sl (args.map au) false),(16,.ptr 5 0 0),(19,.sl (c.map df) false),(68,.sl (X.map gL) false),(69,.int .i64 (X.length:Int)),(70,.int .i64 (i:Int))]) { H:=dW ([(0,.arr (n+4) 0 [.sl (D.map aP) false::.own 1 a0 0 da.length none::.own 2 b0 0 eJ.length none::.own 3 l0.length 0 (l0.length+1) none::jS 4 n] true false false),(1,.arr 8 a0 (da.map dG) false false true),(2,.arr 10 b0 (eJ.map bW) false false true),(3,.arr 5 l0.length (au t0::l0.map au) false false true),(4,box (au g))]++[(5,box (gL am))]),n:=6,log:=[] }) :
 Ls I E kk sz (.loop jZ) T C Q:=by
 subst b8;rcases me with rfl|rfl|rfl
 all_goals
  refine vC hρ U aq am.vars.length (nn:=6) (λj (c:Z Entry)=>[(0,.ptr 0 0 0),(1,.sl (ctx.map df) false),(6,.ptr 4 0 0),(13,.sl (args.map au) false),(14,.bool true),(16,.ptr 5 0 0),(17,.sl (fs.map au) false),(19,.sl (c.map df) false),(68,.sl (X.map gL) false),(69,.int .i64 (X.length:Int)),(70,.int .i64 (i:Int)),(97,.sl (am.vars.map cF) false),(98,.int .i64 (am.vars.length:Int)),(99,.int .i64 (j:Int))])
   (λj c=>[(0,.arr (n+4) 0 [.sl (D.map aP) false::.own 1 a0 0 da.length none::.own 2 b0 0 eJ.length none::.own 3 l0.length 0 (l0.length+1) none::jS 4 n] true false false),(1,.arr 8 a0 (da.map dG) false false true),(2,.arr 10 b0 (eJ.map bW) false false true),(3,.arr 5 l0.length (au t0::l0.map au) false false true),(4,box (au g))]++[(5,box (gL am))])
   (λj c=>Aw (am.vars.take j) (am.vars.drop j) (fs.drop j) c=R/\c.length=ctx.length+j) ctx (by simpa using hT) ⟨by simpa using hR,rfl⟩ ?_ ?_
  . rintro c ⟨M,O⟩ K;rw[bz,Aw]at M;have cH:=E1 c M.symm (by omega);obtain⟨ap,ac,av,⟨bk,bp,bn,bm,NS,NU,⟨HW,H3,HU,HT,HX⟩⟩⟩:=am;cases g;cases t0;simp[jZ,U,jO];exact bO.mk (aw.auto (hH:=by simp[jO])) cH
  . rintro j c hj ⟨M,O⟩ K hK;have js:(j:Int)<am.vars.length:=by omega
    have qt:j<=am.vars.length:=by omega
    have xr:j<fs.length:=by omega
    have eb:c.length<=1000:=by omega
    have cy:=bI (i:=j);have m1:j*5 / 5=j:=by omega
    have An:(am.vars.take j).length<=1000000:=by rw[eB];omega
    rw[aK hj,aK xr,Aw]at M;obtain⟨v,Ks⟩:∃ v,am.vars[j]=v:=⟨_,rfl⟩;obtain⟨fx,hfx⟩:∃ fx,fs[j]=fx:=⟨_,rfl⟩;rw[Ks,hfx]at M;by_cases ew:v∈am.vars.take j
    . rw[if_pos ew]at M;have cH:=DP M.symm;have UE:decide (v∈am.vars.take j)=true:=decide_eq_true ew;obtain⟨ap,ac,av,⟨bk,bp,bn,bm,NS,NU,⟨HW,H3,HU,HT,HX⟩⟩⟩:=am;cases g;cases t0;simp only[Am.BR]at hj js qt An UE Ks;obtain⟨tv,CM⟩:∃ tv,av.take j=tv:=⟨_,rfl⟩;have zDV:List.take j (av.map cF)=tv.map cF:=by rw[<- uH,CM]
      rw[CM]at An UE;simp[jZ,U,jO,hj,js,qt,Ks,EE,JP,bounds,V5,fV,OW,zDV,Ny,qX,An,UE,-List.map_take];exact bO.mk (aw.auto) cH
    . rw[if_neg ew]at M;have UE:decide (v∈am.vars.take j)=false:=decide_eq_false ew;have mA:am.vars.take (j+1)=am.vars.take j++[v]:=by rw[gq hj,Ks]
      have bc:=hK (c++[⟨v,mono fx⟩]) ⟨by rw[mA];exact M,by rw[bB,O];rfl⟩;obtain⟨ap,ac,av,⟨bk,bp,bn,bm,NS,NU,⟨HW,H3,HU,HT,HX⟩⟩⟩:=am;cases g;cases t0;cases fx;simp only[Am.BR]at hj js qt An UE Ks;obtain⟨tv,CM⟩:∃ tv,av.take j=tv:=⟨_,rfl⟩;have zDV:List.take j (av.map cF)=tv.map cF:=by rw[<- uH,CM]
      rw[CM]at An UE;simp[jZ,U,jO,hj,js,qt,xr,Ks,hfx,m1,EE,JP,bounds,V5,fV,OW,zDV,Ny,qX,An,UE,hM,ED,mono,hP,ER,eb,cy,-List.map_take,-Int.natCast_add];exact bc _ _ (aw.auto (by simp[df,mono,-Int.natCast_add]) (by simp[jO]))
def zpl  (ud:E.dE 204=Ef) (Ny:E.dE 120=qX) (hM:E.dE 127=ED) (hP:E.dE 126=ER) (hH:E.dE 60=eY (VL (EK d f m)))
  (hn:n<=1000) (BJ:n<=900)  (hD:FZ D) {ctx:Z Entry} (hc:ctx.length<=900)  {args:Z G} (sX:args.length<=100000)  (hX:X.length<=1000) (P4:∀ a∈X,a.vars.length<=90)  (me:kk=1\/kk=3\/kk=4)
     {l2:Z G} {zJq r:Bool} (hR:yG (iR d f D m) D args ctx g zJq X (⟨some (a0,b0),da,eJ⟩,t0::l0)=some (r,(⟨some (a2,b2),cR,cw⟩,t2::l2)))
 {sz:Nat} (b8:sz=127)   
 (hT:aw kk T C (dW [(0,.ptr 0 0 0),(1,.sl (ctx.map df) false),(6,.ptr 4 0 0),(13,.sl (args.map au) false),(14,.bool zJq),(68,.sl (X.map gL) false),(69,.int .i64 (X.length:Int)),(70,.int .i64 ((0:Nat):Int))]) { H:=dW [(0,.arr (n+4) 0 [.sl (D.map aP) false::.own 1 a0 0 da.length none::.own 2 b0 0 eJ.length none::.own 3 l0.length 0 (l0.length+1) none::jS 4 n] true false false),(1,.arr 8 a0 (da.map dG) false false true),(2,.arr 10 b0 (eJ.map bW) false false true),(3,.arr 5 l0.length (au t0::l0.map au) false false true),(4,box (au g))],n:=5,log:=[] })
 (DP:r=false->Q .ret (dW [(8,.bool false)]) { H:=dW [(0,.arr (n+4) 0 [.sl (D.map aP) false::.own 1 a2 0 cR.length none::.own 2 b2 0 cw.length none::.own 3 l2.length 0 (l2.length+1) none::jS 4 n] true false false),(1,.arr 8 a2 (cR.map dG) false false true),(2,.arr 10 b2 (cw.map bW) false false true),(3,.arr 5 l2.length (au t2::l2.map au) false false true)],n:=5,log:=[] })
 (E1:Q (.exit 0) (dW [(14,.bool r)]) { H:=dW [(0,.arr (n+4) 0 [.sl (D.map aP) false::.own 1 a2 0 cR.length none::.own 2 b2 0 cw.length none::.own 3 l2.length 0 (l2.length+1) none::jS 4 n] true false false),(1,.arr 8 a2 (cR.map dG) false false true),(2,.arr 10 b2 (cw.map bW) false false true),(3,.arr 5 l2.length (au t2::l2.map au) false false true)],n:=5,log:=[] }) :
 Ls I E kk sz (.loop fU) T C Q:=by
 subst b8;rcases me with rfl|rfl|rfl
 all_goals
  refine vC hρ U aq X.length (nn:=5) (λi (st:Bool×Nat×Nat×Z Slot×Z Change×G×Z G)=>[(0,.ptr 0 0 0),(1,.sl (ctx.map df) false),(6,.ptr 4 0 0),(13,.sl (args.map au) false),(14,.bool st.1),(68,.sl (X.map gL) false),(69,.int .i64 (X.length:Int)),(70,.int .i64 (i:Int))])
   (λi st=>[(0,.arr (n+4) 0 [.sl (D.map aP) false::.own 1 st.2.1 0 st.2.2.2.1.length none::.own 2 st.2.2.1 0 st.2.2.2.2.1.length none::.own 3 st.2.2.2.2.2.2.length 0 (st.2.2.2.2.2.2.length+1) none::jS 4 n] true false false),(1,.arr 8 st.2.1 (st.2.2.2.1.map dG) false false true),(2,.arr 10 st.2.2.1 (st.2.2.2.2.1.map bW) false false true),(3,.arr 5 st.2.2.2.2.2.2.length (au st.2.2.2.2.2.1::st.2.2.2.2.2.2.map au) false false true),(4,box (au g))])
   (λi st=>yG (iR d f D m) D args ctx g st.1 (X.drop i) (⟨some (st.2.1,st.2.2.1),st.2.2.2.1,st.2.2.2.2.1⟩,st.2.2.2.2.2.1::st.2.2.2.2.2.2)=some (r,(⟨some (a2,b2),cR,cw⟩,t2::l2))) (zJq,a0,b0,da,eJ,t0,l0) (by simpa using hT) hR ?_ ?_
  . rintro ⟨is,a,b,sl,tr,t,l⟩ M K;simp only[bz]at M;rw[yG]at M;cases M;cases g;cases t2;simp[fU,U];exact bO.mk (aw.auto) E1
  . rintro i ⟨is,a,b,sl,tr,t,l⟩ hi M K hK;simp only at M;have cj:(i:Int)<X.length:=by omega
    have cy:=bI (i:=i);have m1:i*14 / 14=i:=by omega
    have m2:i*14 % 14=0:=by omega
    rw[aK hi,yG]at M;have Q1:=P4 _ (az hi);obtain⟨am,DQ⟩:∃ am,X[i]=am:=⟨_,rfl⟩;rw[DQ]at M Q1;have hF:Zz D am.dE args=some (mV D am.dE args):=if_pos ⟨hD,sX⟩;obtain⟨fs,fb,Ly⟩:∃ fs fb,mV D am.dE args=(fs,fb):=⟨_,_,rfl⟩;rw[Ly]at hF M;simp only at M;by_cases hcond:is=false\/fs.length≠am.vars.length
    . rw[if_pos hcond]at M;cases M;have cH:=DP rfl;obtain⟨ap,ac,av,⟨bk,bp,bn,bm,NS,NU,⟨HW,H3,HU,HT,HX⟩⟩⟩:=am;cases g;cases t2;simp only[Am.Md,Am.BR]at hF hcond
      cases is with
      | false =>
        simp[fU,U,hi,cj,m1,m2,DQ,jO,ud,Ef,hF];exact bO.mk (aw.auto) cH
      | true =>
        have hlen:¬ fs.length=av.length:=by simpa using hcond
        have KO:¬ (fs.length:Int)=(av.length:Int):=by omega
        simp[fU,U,hi,cj,m1,m2,DQ,jO,ud,Ef,hF,hlen,KO];exact bO.mk (aw.auto) cH
    . rw[if_neg hcond]at M;have his:is=true:=by cases is with|true=>rfl|false=>exact absurd (.inl rfl) hcond
      subst his;have hlen:fs.length=am.vars.length:=aV λh=>hcond (.inr h)
      have Pb:=λkk me R hR T C Q=>zkT hρ U aq Ny hM hP (n:=n) (D:=D) (ctx:=ctx) (g:=g) (args:=args) (fs:=fs) (X:=X) (am:=am) (i:=i) (kk:=kk) me hc Q1 hlen (a0:=a) (b0:=b) (da:=sl) (eJ:=tr) (t0:=t) (l0:=l) (R:=R) hR (sz:=127) rfl (T:=T) (C:=C) (Q:=Q)
      cases On:Aw [] am.vars fs ctx with
      | none =>
        rw[On]at M;cases M;have cH:=DP rfl;have W3:=λkk me=>Pb kk me _ On
        clear Pb;obtain⟨ap,ac,av,⟨bk,bp,bn,bm,NS,NU,⟨HW,H3,HU,HT,HX⟩⟩⟩:=am;cases g;cases t2;simp only[Am.Md,Am.BR]at hF hlen;have KO:(fs.length:Int)=(av.length:Int):=by omega
        simp[fU,U,hi,cj,m1,m2,DQ,jO,ud,Ef,hF,hlen,KO];refine W3 _ (by decide) _ _ _ (aw.auto (hH:=by simp[jO])) ?_ (λc ya=>by cases ya);intro _;exact bO.mk (aw.auto) cH
      | some c =>
        rw[On]at M;simp only[aA]at M;obtain⟨⟨zJp,⟨z3,F4,Ff⟩,l3⟩,O,h3⟩:=M;have hg:=mO O;obtain⟨a3,b3,e3⟩:=hg.1 _ _ rfl;have e4:l3≠[]:=hg.2 (by simp);obtain⟨t3,l4,rfl⟩:∃ t4 l4,l3=t4::l4:=dh e4;simp only at e3;subst e3;have h4:=JW O;have bc:=hK (zJp,a3,b3,F4,Ff,t3,l4) h3;clear O h3 hg;have W3:=λkk me=>Pb kk me _ On
        clear Pb;obtain⟨ap,ac,av,⟨bk,bp,bn,bm,NS,NU,⟨HW,H3,HU,HT,HX⟩⟩⟩:=am;cases g;cases t;cases t3;simp only[Am.Md,Am.BR,Am.Sg]at hF hlen h4;have KO:(fs.length:Int)=(av.length:Int):=by omega
        simp[bL]at h4;simp[fU,U,hi,cj,m1,m2,DQ,jO,ud,Ef,hF,hlen,KO];refine W3 _ (by decide) _ _ _ (aw.auto (hH:=by simp[jO])) (λkq=>by cases kq) ?_;rintro c2 ya _;cases ya;simp[fU,U,jO,hH,hn,BJ,h4,cy,aJ,-Int.natCast_add];exact bc _ _ (aw.auto)
def ziN(I:Nat->Value)(E:Env)(n:MN)(D:Z Decl)(ctx:Z Entry)(g:G)(e:Xp)(s:MS)(l:Z G)(r:Bool)(s2:MS)(l2:Z G):Prop :=
 Wp I E (Kr s.z l) 127 jJ.1 ((((PT.leaf.set 0 (.ptr 0 0 0)).set 1 (enc ctx)).set 2 (enc g)).set 3 (enc e)) { H:=dW (uC n D s l),n:=Kr s.z l,log:=[] } (J.Leaves E.P Tryz.f128 (aH (Kr s.z l) (.bool r) (uC n D s2 l2)))
variable (hL:E.dE 202=IW)(Pr:E.dE 196=Ju)(hB:E.dE 166=eY (C9 0 (yE d f)))(hAn:E.dE 203=eY (VL (rJ d f)))(ud:E.dE 204=Ef)(Ny:E.dE 120=qX)(hM:E.dE 127=ED)(hP:E.dE 126=ER)(hH:E.dE 60=eY (VL (EK d f m)))
 {n:MN} (BJ:n.n<=900)  {ctx:Z Entry}  {e:Xp} {s s1:MS} {l l2:Z G} {r:Bool} (hz:s.z=none->s.sl=[]/\s.tr=[]/\l=[]) {k0:Xp} {ks:Z Xp} (oT:e.kids=k0::ks) (eb:ctx.length<=100000) {sc:Scheme} {fd kb:Bool} {ki:Int} (tA:rD ctx k0.name=(sc,fd)) (ke:zcZ D e.cf=some (ki,kb))
include hL Pr hB hAn ud Ny hM hP hH BJ hz oT eb tA ke
theorem zyx (kq:fd=false\/kb=false\/sc.count≠0):ziN I E n D ctx g e s l false s l:=by
 obtain⟨n,hn⟩:=n;simp only at BJ;cases g;obtain⟨ek,ep,en,em,cM,QG,⟨mw,mj,my,xL,mu⟩⟩:=e;simp only[Xp.yo,Xp.yF]at oT ke;subst oT;obtain⟨kk,kp,kn,km,znO,znP,⟨zJk,zJi,zJl,zJm,zJj⟩⟩:=k0;obtain⟨scc,⟨sk,sn,si,sh,zF0⟩⟩:=sc;simp only[Xp.jC]at tA;unfold ziN;rcases AR hz with⟨rfl,rfl⟩|⟨a,b,sl,tr,rfl⟩
 any_goals rcases l with _|⟨⟨tk,tn,ti,th,tl⟩,l⟩
 all_goals
  cases fd with
  | false =>
    simp[U,bL,hL,IW,eb,tA,Pr,Ju,ke,hn,aJ];exact aH.fu rfl rfl rfl (by simp)
  | true =>
    cases kb with
    | false =>
      simp[U,bL,hL,IW,eb,tA,Pr,Ju,ke,hn,aJ];exact aH.fu rfl rfl rfl (by simp)
    | true =>
      have sT:¬ scc=0:=by simpa using kq
      simp[U,bL,hL,IW,eb,tA,Pr,Ju,ke,sT,hn,aJ];exact aH.fu rfl rfl rfl (by simp)
section
variable (Zp:fd=true)(OS:kb=true)(sT:sc.count=0){a1 b1:Nat}{cY:Z Slot}{mR:Z Change}
include Zp OS sT
theorem zpn(M:yE d f s [enc g]=some (.bool false,⟨some (a1,b1),cY,mR⟩)):ziN I E n D ctx g e s l false ⟨some (a1,b1),cY,mR⟩ l:=by
 subst Zp OS;obtain⟨n,hn⟩:=n;simp only at BJ;have lb:n+1<=1000:=by omega
 cases g;obtain⟨ek,ep,en,em,cM,QG,⟨mw,mj,my,xL,mu⟩⟩:=e;simp only[Xp.yo,Xp.yF]at oT ke;subst oT;obtain⟨kk,kp,kn,km,znO,znP,⟨zJk,zJi,zJl,zJm,zJj⟩⟩:=k0;obtain⟨scc,⟨sk,sn,si,sh,zF0⟩⟩:=sc;simp only[Xp.jC]at tA sT;subst sT;unfold ziN;rcases AR hz with⟨rfl,rfl⟩|⟨a,b,sl,tr,rfl⟩
 any_goals rcases l with _|⟨⟨tk,tn,ti,th,tl⟩,l⟩
 all_goals
  simp at M;simp[U,bL,hL,IW,eb,tA,Pr,Ju,ke,hB,M,hn,lb,aJ]
  first|(refine aH.fu rfl rfl rfl ?_;simp;done)|exact aH.auto
theorem zyy{F4:Z Slot}{a3 b3:Nat}{t3:G}{args:Z G}{is:Bool}(hD:FZ D)(zEp:ctx.length<=900)(hX:e.cf.length<=1000)(P4:∀ a∈e.cf,a.vars.length<=90)(sX:args.length<=100000)(M:yE d f s [enc g]=some (.bool true,⟨some (a1,b1),cY,mR⟩))(O:rJ d f D ⟨some (a1,b1),cY,mR⟩ l [enc sc.type,.int .i64 ki]=some (.tuple [.sl (args.map au) false,.bool is],⟨some (a2,b2),cR,cw⟩,t2::l2))
 (h3:yG (iR d f D m) D args ctx g is e.cf (⟨some (a2,b2),cR,cw⟩,t2::l2)=some (r,(⟨some (a3,b3),F4,Ff⟩,t3::l3))):ziN I E n D ctx g e s l r ⟨some (a3,b3),F4,Ff⟩ (t3::l3):=by
 subst Zp OS;obtain⟨n,hn⟩:=n;simp only at BJ;have lb:n+1<=1000:=by omega
 have rB:=λkk me T C Q=>zpl hρ U aq ud Ny hM hP hH hn BJ hD zEp sX hX P4 (kk:=kk) me h3 (sz:=127) rfl (T:=T) (C:=C) (Q:=Q)
 clear h3;cases g;cases t2;cases t3;obtain⟨ek,ep,en,em,cM,QG,⟨mw,mj,my,xL,mu⟩⟩:=e;simp only[Xp.yo,Xp.yF]at oT ke hX P4 rB;subst oT;obtain⟨kk,kp,kn,km,znO,znP,⟨zJk,zJi,zJl,zJm,zJj⟩⟩:=k0;obtain⟨scc,⟨sk,sn,si,sh,zF0⟩⟩:=sc;simp only[Xp.jC]at tA sT;subst sT;unfold ziN;rcases AR hz with⟨rfl,rfl⟩|⟨a,b,sl,tr,rfl⟩
 any_goals rcases l with _|⟨⟨tk,tn,ti,th,tl⟩,l⟩
 all_goals
  simp at M O;simp[U,bL,hL,IW,eb,tA,Pr,Ju,ke,hB,M,hAn,O,hn,lb,BJ,aJ];refine rB _ (by decide) _ _ _ (aw.auto) ?_ ?_
  . rintro rfl;simp[U];exact aH.fu rfl rfl rfl (by simp)
  . simp[U];exact aH.fu rfl rfl rfl (by simp)
end
end
end
abbrev Gs(d f m:Nat):J.Spec:=eY (VL (EK d f m))
abbrev zyz(d f m:Nat):J.Spec:=eY (VL (NO d f m))
section
variable {I:Nat->Value}(hρ:J.Good I)
include hρ
def zax  (zJB:∀ I,J.Good I->Valid I Pg 60 (Gs d f m)) (zNG:∀ I,J.Good I->Valid I Pg 128 (zyz d f m)):Valid I Pg 60 (Gs d f (m+1)):=by
 refine Valid.sym (fo Tryz.func60 kY.2) λvs C D h=>?_
 obtain⟨args,n,Ds,s,s',l,l',rv,ds,b,c,dd,e0,hF,hz,zsD,BJ,rfl,_,zz9,hg,b4⟩:=J9 h;obtain⟨ctx,g,e,r,rfl,hR,hq⟩:=Ux hF;cases hq
 have cQ:∀ ρ',J.Good ρ'->bH ρ' (EL [(125,eY (C9 0 (iE d f))),(127,ED),(126,ER),(128,zyz d f m),(118,dH (cO EC)),(129,LD),(81,eY (VL (Dk d f))),(60,Gs d f m)]):=λρ' fF =>
  ag (ae (Qc fF d f) (ae (zlF fF) (ae (zlM fF) (ae (zNG ρ' fF) (ae (zlD fF) (ae (zvL fF) (ae (zqU fF d f) (ae (zJB ρ' fF) aG))))))))
 refine sy hρ Tryz.func60 kY.2 rfl hg (λρ' fF=>⟨_,rfl,cQ ρ' fF,?_⟩) b4;have cQ:=cQ ρ' fF;have BW:=mO hR;clear h hF zsD b4 hg;rw[iR]at hR;split at hR
 . rename_i hp;have zNS:=hp;obtain⟨hD,zEp,Zr,hax,Q1,sf⟩:=hp;have vA:EC e=some ((dQ e).1,(dQ e).2):=if_pos Zr;have OK:LF Ds ctx (dQ e).1=some (BK Ds ctx (dQ e).1):=if_pos ⟨hD,by omega⟩;split at hR
   . rename_i hk;split at hR
     . cases hR
     rename_i k0 ks oT;simp only[aA]at hR;obtain⟨⟨qv,s1⟩,M,hR⟩:=hR;simp only at hR;split at hR
     . simp only[aA]at hR;obtain⟨x,hx,y,hy,hR⟩:=hR;obtain rfl:=bo.bq _ _ hx;obtain rfl:=bo.bq _ _ hy;exact zjR fF rfl cQ rfl rfl rfl rfl rfl rfl rfl rfl BJ hz hk zEp oT M (JW hR) (mO hR)
     . cases hR;rename_i av bv
       obtain⟨x,y,_,e0⟩:∃ (x y:G) (r:Bool),(V.tuple [av,bv,.bool false])=.tuple [enc x,enc y,.bool r]:=by
        obtain⟨x,w,_,hw,hl,hh⟩:=rR M;rcases hh with⟨_,hq⟩|⟨_,a0,b0,a1,b1,a2,b2,a3,b3,cY,cR,F4,mR,cw,Ff,v,u,r,_,_,_,_,hq⟩<;>exact⟨_,_,_,congrArg Prod.fst hq⟩
       cases e0;exact zeH fF rfl cQ rfl rfl rfl rfl rfl rfl rfl rfl BJ hz hk M
     . cases hR
   . split at hR
     . rename_i xj VK;exact zjS fF rfl cQ rfl rfl rfl rfl rfl rfl rfl rfl BJ hz VK (ztA zNS hR) BW
     . rename_i xj VK;obtain⟨sc,Zp⟩:∃ sc,(BK Ds ctx (dQ e).1).1=sc:=⟨_,rfl⟩;rw[Zp]at hR;split at hR
       . rename_i zeQ;have zD4:LF Ds ctx (dQ e).1=some (sc,true):=by rw[OK];exact congrArg some (tL Zp zeQ)
         simp only[aA]at hR;obtain⟨⟨hv,s1,l1⟩,M,hR⟩:=hR;simp only at hR;split at hR
         . rename_i lv is;simp only[aA]at hR;obtain⟨acc,hacc,hR⟩:=hR;obtain rfl:=bo.bq _ _ hacc;split at hR
           . cases hR
           . rename_i hlen;obtain⟨hg1,hg2,hg3⟩:=LV M;obtain⟨t1,zND,rfl⟩:=dh hg2
             cases is with
             | false =>
               have hr:r=(false,s1,t1::zND):=by
                cases hx:(dQ e).2 with
                |nil=>rw[hx,xG]at hR;exact(bS hR).symm
                |cons x xs=>rw[hx,xH]at hR;exact(bS hR).symm
               subst hr;exact zb1 fF rfl cQ rfl rfl rfl rfl rfl rfl rfl rfl BJ hz xj VK vA sf zD4 M hg1
             | true =>
               obtain⟨a1,b1,e1⟩:=hg3 _ rfl;cases s1;cases e1;have Zn:=GR (λg x s q h=>mO h) hR;obtain⟨a2,b2,e2⟩:=Zn.1 _ _ rfl;obtain⟨t2,l3,e3⟩:=dh (Zn.2 (by simp));obtain⟨r,⟨z2,cR,cw⟩,l2⟩:=r;cases e2;cases e3;exact zeI fF rfl cQ rfl rfl rfl rfl rfl rfl rfl rfl BJ hz xj VK vA sf (aV λhh=>hlen ⟨rfl,hh⟩) zD4 M hR
         . cases hR
       . rename_i zeQ;cases hR;exact Zl fF rfl cQ rfl rfl rfl rfl rfl rfl rfl rfl BJ hz xj VK vA (by rw[OK];exact congrArg some (tL Zp (Bool.eq_false_iff.2 zeQ)))
 . cases hR
def zIv  (zJB:∀ I,J.Good I->Valid I Pg 60 (Gs d f m)):Valid I Pg 128 (zyz d f m):=by
 refine Valid.sym (fo Tryz.func128 jJ.2) λvs C D h=>?_
 obtain⟨args,n,Ds,s,s',l,l',rv,ds,b,c,dd,e0,hF,hz,zsD,BJ,rfl,_,zz9,hg,b4⟩:=J9 h;obtain⟨ctx,g,e,r,rfl,hp,hR,hq⟩:=zpo hF;cases hq
 have cQ:∀ ρ',J.Good ρ'->bH ρ' (EL [(202,IW),(196,Ju),(166,eY (C9 0 (yE d f))),(203,eY (VL (rJ d f))),(204,Ef),(120,qX),(127,ED),(126,ER),(60,Gs d f m)]):=λρ' fF =>
  ag (ae (zt6 fF) (ae (zt9 fF) (ae (zgk fF d f) (ae (zdy fF d f) (ae (zqR fF) (ae (Yf fF) (ae (zlF fF) (ae (zlM fF) (ae (zJB ρ' fF) aG)))))))))
 refine sy hρ Tryz.func128 jJ.2 rfl hg (λρ' fF=>⟨_,rfl,cQ ρ' fF,?_⟩) b4;have cQ:=cQ ρ' fF;clear h hF zsD b4 hg;obtain⟨hD,zEp,Zr,hax,Q1,sf⟩:=hp;have eb:ctx.length<=100000:=by omega
 unfold Mj at hR;split at hR
 . cases hR
 rename_i k0 ks oT;have ke:zcZ Ds e.cf=some (En Ds e.cf):=if_pos hD;obtain⟨sc,fd,tA⟩:∃ sc fd,rD ctx k0.name=(sc,fd):=⟨_,_,rfl⟩;obtain⟨ki,kb,me⟩:∃ ki kb,En Ds e.cf=(ki,kb):=⟨_,_,rfl⟩;rw[me]at ke hR;rw[tA]at hR;simp only at hR;split at hR
 . rename_i kq;cases hR;exact zyx fF rfl cQ rfl rfl rfl rfl rfl rfl rfl rfl rfl BJ hz oT eb tA ke kq
 . rename_i zxe;have Zp:fd=true:=by cases fd with|true=>rfl|false=>exact absurd (.inl rfl) zxe
   have OS:kb=true:=by cases kb with|true=>rfl|false=>exact absurd (.inr (.inl rfl)) zxe
   have sT:sc.count=0:=aV λhh=>zxe (.inr (.inr hh))
   simp only[aA]at hR;obtain⟨⟨qv,s1⟩,M,hR⟩:=hR;obtain⟨be,a1,b1,cY,mR,e1⟩:=FO M;obtain⟨rfl,rfl⟩:=cB e1
   cases be with
   | false =>
     cases hR;exact zpn fF rfl cQ rfl rfl rfl rfl rfl rfl rfl rfl rfl BJ hz oT eb tA ke Zp OS sT M
   | true =>
     simp only[aA]at hR;obtain⟨⟨av,s2,l2⟩,O,hR⟩:=hR;simp only at hR;split at hR
     . rename_i av is;simp only[aA]at hR;obtain⟨aa,zN8,hR⟩:=hR;obtain rfl:=bo.bq _ _ zN8;obtain⟨t,i,hi,a0,b0,a2,b2,cR,cw,e,_,_,_,HI,_,_,_,_,hq⟩:=yI O;obtain⟨u3,lR⟩:=cB hq;obtain⟨rfl,rfl⟩:=cB lR
       have sX:aa.length<=100000:=by
        have oj:(enc aa:V)=enc (cz cY.length Ds[i].params.length):=by
         have:=V.tuple.inj u3;exact(List.cons.inj this).1
        have:aa=cz cY.length Ds[i].params.length:=by
         have e1:=congrArg (λv=>(bo.dec v:Y (Z G))) oj;simp only[bo.bZ]at e1;exact bS e1
        rw[this,AJ];omega
       obtain⟨t2,l3,e3⟩:∃ t2 l3,l++[t]=t2::l3:=dh (by simp);rw[e3]at hR O;have Zn:=GQ (λc g x s q h=>mO h) hR;obtain⟨a3,b3,e2⟩:=Zn.1 _ _ rfl;obtain⟨t3,l4,e4⟩:=dh (Zn.2 (by simp));obtain⟨r,⟨z3,F4,Ff⟩,l5⟩:=r;cases e2;cases e4;exact zyy fF rfl cQ rfl rfl rfl rfl rfl rfl rfl rfl rfl BJ hz oT eb tA ke Zp OS sT hD zEp hax Q1 sX M O hR
     . cases hR
theorem zaw:Valid I Pg 60 (Gs d f 0):=by
 refine Valid.sym (fo Tryz.func60 kY.2) λvs C D h=>?_
 obtain⟨args,n,Ds,s,s',l,l',rv,ds,b,c,dd,e0,hF,hz,zsD,BJ,rfl,_,zz9,hg,b4⟩:=J9 h;obtain⟨ctx,g,e,r,rfl,hR,hq⟩:=Ux hF;cases hR
end
def Ye(d f:Nat):∀ (m:Nat) {I:Nat->Value},J.Good I->Valid I Pg 60 (Gs d f m)
 | 0,_,hρ=>zaw hρ
 |m+1,_,hρ=>zax hρ (λ_ h=>Ye d f m h) (λ_ h=>zIv h λ_ h=>Ye d f m h)
def GL(d:Nat)(t:G)(b:Bool):Y Bool:=if t.size<=d/\t.ok=true then some (!t.closed b)else none
def ye(d:Nat)(t:G)(b:Bool):Y Bool:=if t.size<=d/\t.ok=true then some (t.closed b)else none
section
variable {I:Nat->Value}(hρ:J.Good I)
include hρ
def zIu(hv:Valid I Pg 103 (dH (dC (ye d)))):Valid I Pg 187 (OV 5 none (BV (GL d))):=Valid.rd (fo Tryz.func187 Er.2) λX cs r h hp x X0 RL hX C q hq hc eN hx=>by
 obtain⟨a,p,b,rfl,rfl,hF,rfl⟩:=IC h;obtain⟨⟨g1,g2⟩,rfl⟩:=bF hF;have UG:(EL [(103,dH (dC (ye d)))]).P=Pg:=rfl;have cQ:bH I (EL [(103,dH (dC (ye d)))]):=ag (ae hv aG);have td:(EL [(103,dH (dC (ye d)))]).dE 103=dH (dC (ye d)):=rfl;have eb:ye d a p=some (a.closed p):=if_pos ⟨g1,g2⟩;generalize a.closed p=w at eb hp ⊢;rcases hx with⟨rfl,rfl,AD,ue⟩|⟨es,i,rfl,cb,rfl,rfl,h5,h6,h7⟩
 . rcases hX with⟨rfl,_,_⟩|⟨es,e1,_⟩
   . refine TD (sz:=5) (g:=none) (RL:=[]) (cs:=[[.bool p]]) hρ cQ follows named Tryz.func187 Er.2 rfl hp ?_ hq hc eN (.inl ⟨rfl,rfl,AD,ue⟩);rw[show Tryz.f187.ntmps=8 from rfl];simp[UG,td,eb];exact aH.bw
   . cases e1
 . rcases hX with⟨e1,e2,_⟩|⟨EV,e1,_⟩
   . rw[jy cb]at e2;cases e2
   . cases e1
end
def zjK(d:Nat)(l:Z G)(c0:Bool):Y Int:=if l.length<=100000/\∀ x∈l,((GL d) x c0).isSome=true then some (gU (λx=>((GL d) x c0).getD false) l 0)else none
def Xd(d:Nat)(l:Z G)(c0:Bool):Y Bool:=if l.length<=100000/\∀ x∈l,((GL d) x c0).isSome=true then some (l.any λx=>((GL d) x c0).getD false)else none
section
variable {I:Nat->Value}(hρ:J.Good I)
include hρ
section
variable (U:E.P=Pg)(aq:bH I E)
include U aq
def sZ(hc:E.dE 187=OV 5 none (BV (GL d))){l:Z G}(hl:l.length<=100000)(b6:∀ x∈l,((GL d) x c0).isSome=true)  (hr:gU (λx=>((GL d) x c0).getD false) l 0=r) :
 Wp I E 1 Tryz.f205.ntmps bJ.1 ((PT.leaf.set 0 (.sl (l.map au) false)).set 1 (.func 187 [.ptr 0 0 0])) { H:=dW [(0,box ([.bool c0]))],n:=1,log:=[] } (J.Leaves E.P Tryz.f205 (aH 1 (enc r) [(0,box ([.bool c0]))])):=by
 rw[show Tryz.f205.ntmps=19 from rfl];simp[U]
 refine vC hρ U aq l.length (nn:=1) (λi (_:Unit)=>[(0,.sl (l.map au) false),(1,.func 187 [.ptr 0 0 0]),(7,.int .i64 (l.length:Int)),(8,.int .i64 (i:Int))])
  (λi _=>[(0,box ([.bool c0]))]) (λi _=>gU (λx=>((GL d) x c0).getD false) (l.drop i) (i:Int)=r) ()
  (aw.auto) (by simpa using hr) ?_ ?_
 . intro _ h K;rw[bz,gU]at h;simp[bf,U];refine bO.mk (aw.auto (TL:=[]) (HL:=[(0,box ([.bool c0]))]) (n:=1)) ?_;simp[U,<- h];exact aH.bw
 . intro i _ hi h K hK;have cj:(i:Int)<l.length:=by omega
   have cy:=bI (i:=i);have zN:(i*5) / 5=i:=by omega
   obtain⟨q,hq⟩:=bN.1 (b6 l[i] (az hi));rw[aK hi,gU,hq]at h;simp only[eu]at h
   cases q with
   | true =>
     rw[if_pos rfl]at h;simp[bf,U,hi,cj,zN,hc,hq];refine bO.mk (aw.auto (TL:=[(4,.int .i64 (i:Int))]) (HL:=[(0,box ([.bool c0]))]) (n:=1)) ?_;simp[U,<- h];exact aH.bw
   | false =>
     rw[if_neg (by decide)]at h;have bc:=hK () h;simp[bf,U,hi,cj,zN,hc,hq,cy,-Int.natCast_add];exact bc _ _ (aw.auto)
def sV(hc:E.dE 187=OV 5 none (BV (GL d))){l:Z G}(hl:l.length<=100000)(b6:∀ x∈l,((GL d) x c0).isSome=true)(cb:l≠[])(hr:gU (λx=>((GL d) x c0).getD false) l 0=r) :
 Wp I E 2 Tryz.f205.ntmps bJ.1 ((PT.leaf.set 0 (.own 1 (l.length-1) 0 l.length none)).set 1 (.func 187 [.ptr 0 0 0])) { H:=dW [(0,box ([.bool c0])),(1,.arr 5 (l.length-1) (l.map au) false false true)],n:=2,log:=[] } (J.Leaves E.P Tryz.f205 (aH 2 (enc r) [(0,box ([.bool c0])),(1,.arr 5 (l.length-1) (l.map au) false false true)])):=by
 rw[show Tryz.f205.ntmps=19 from rfl];have oR:0<l.length:=bT.2 cb;simp[U]
 refine vC hρ U aq l.length (nn:=2) (λi (_:Unit)=>[(0,.own 1 (l.length-1) 0 l.length none),(1,.func 187 [.ptr 0 0 0]),(7,.int .i64 (l.length:Int)),(8,.int .i64 (i:Int))])
  (λi _=>[(0,box ([.bool c0])),(1,.arr 5 (l.length-1) (l.map au) false false true)]) (λi _=>gU (λx=>((GL d) x c0).getD false) (l.drop i) (i:Int)=r) ()
  (aw.auto) (by simpa using hr) ?_ ?_
 . intro _ h K;rw[bz,gU]at h;simp[bf,U];refine bO.mk (aw.auto (TL:=[]) (HL:=[(0,box ([.bool c0])),(1,.arr 5 (l.length-1) (l.map au) false false true)]) (n:=2)) ?_;simp[U,<- h];exact aH.bw
 . intro i _ hi h K hK;have cj:(i:Int)<l.length:=by omega
   have cy:=bI (i:=i);have zN:(i*5) / 5=i:=by omega
   have Ms:(i*5) % 5=0:=by omega
   obtain⟨q,hq⟩:=bN.1 (b6 l[i] (az hi));rw[aK hi,gU,hq]at h;simp only[eu]at h
   cases q with
   | true =>
     rw[if_pos rfl]at h;simp[bf,U,hi,cj,zN,Ms,hc,hq];refine bO.mk (aw.auto (TL:=[(4,.int .i64 (i:Int))]) (HL:=[(0,box ([.bool c0])),(1,.arr 5 (l.length-1) (l.map au) false false true)]) (n:=2)) ?_;simp[U,<- h];exact aH.bw
   | false =>
     rw[if_neg (by decide)]at h;have bc:=hK () h;simp[bf,U,hi,cj,zN,Ms,hc,hq,cy,-Int.natCast_add];exact bc _ _ (aw.auto)
def sW :
 Wp I E 1 Tryz.f205.ntmps bJ.1 ((PT.leaf.set 0 .aE).set 1 (.func 187 [.ptr 0 0 0])) { H:=dW [(0,box ([.bool c0]))],n:=1,log:=[] } (J.Leaves E.P Tryz.f205 (aH 1 (enc (-1:Int)) [(0,box ([.bool c0]))])):=by
 rw[show Tryz.f205.ntmps=19 from rfl];simp[U]
 refine vC hρ U aq 0 (nn:=1) (λi (_:Unit)=>[(7,.int .i64 0),(8,.int .i64 0)]) (λi _=>[(0,box ([.bool c0]))]) (λi _=>True) ()
  (aw.auto) trivial ?_ ?_
 . intro _ h K;simp[bf,U];refine bO.mk (aw.auto (TL:=[]) (HL:=[(0,box ([.bool c0]))]) (n:=1)) ?_;simp[U];exact aH.bw
 omega
end
def uJ  (hv:Valid I Pg 103 (dH (dC (ye d)))):Valid I Pg 205 (OV 5 (some 187) (BV (zjK d))):=Valid.rd (fo Tryz.func205 bJ.2) λX cs r h hp x X0 RL hX C q hq hc eN hx=>by
 obtain⟨l,c0,b,rfl,rfl,hF,rfl⟩:=IC h;obtain⟨⟨M,O⟩,rfl⟩:=bF hF;have UG:(EL [(187,OV 5 none (BV (GL d)))]).P=Pg:=rfl;have cQ:bH I (EL [(187,OV 5 none (BV (GL d)))]):=ag (ae (zIu hρ hv) aG);have cH:=λ(k:V) (RL:Z (Nat×J.Obj)) (T:PT V) (he) (hw) (hx)=>TD (sz:=5) (g:=some 187) (X0:=k) (RL:=RL) (T:=T) (cs:=[[.bool c0]]) (x:=x) (C:=C) (q:=q) hρ cQ follows named Tryz.func205 bJ.2 he hp hw hq hc eN hx
 rcases hx with⟨rfl,rfl,AD,ue⟩|⟨es,i,rfl,cb,rfl,rfl,h5,h6,h7⟩
 . rcases hX with⟨rfl,_,_⟩|⟨es,e1,e2,e3,_⟩
   . exact cH _ [] _ rfl (sZ hρ UG cQ rfl M O rfl) (.inl ⟨rfl,rfl,AD,ue⟩)
   . cases es with
     | nil =>
       have e0:l=[]:=by
        have e4:l.map au=[]:=by injection e1
        exact qQ.1 e4
       subst e0;have e5:X0=V.aE:=e2;subst e5;exact cH _ [] _ rfl (sW hρ UG cQ) (.inl ⟨rfl,rfl,AD,ue⟩)
     |cons e es=>rw[wO]at e3;cases e3
 . have hne2:∃ e l,es=e::l:=dh cb;rcases hX with⟨e1,e2,_⟩|⟨EV,e1,e2,e3,_⟩
   . rw[jy cb]at e2;cases e2
   . have e4:es=l.map au:=by
      have e6:l.map au=EV:=by injection e1
      rw[jy cb]at e3
      cases EV with
      |nil=>cases e3
      | cons y m =>
        rw[jy (by simp)]at e3;have e7:(J.oO 5 es)=J.oO 5 (y::m):=by injection e3 with e8;injection e8
        have e9:es=y::m:=by unfold oO at e7;injection e7
        rw[e9,<- e6]
     have qs:l≠[]:=λe=>cb (by rw[e4,e];rfl)
     have hV:∀ i,oV i (l.map au)=.own i (l.length-1) 0 l.length none:=λi=>by rw[uo (by rw[<- e4];exact cb)];simp
     have hO:oH 1 5 (l.map au)=[(1,.arr 5 (l.length-1) (l.map au) false false true)]:=by rw[jy (by rw[<- e4];exact cb)];simp[J.oO]
     have hw:=sV hρ UG cQ rfl M O qs rfl;refine cH (oV 1 es) (oH 1 5 es) _ rfl ?_ (.inr ⟨es,i,rfl,cb,rfl,rfl,h5,h6,h7⟩);subst e4;rw[hV];show Wp I _ ((1)+(oH 1 5 (l.map au)).length) _ _ _ { H:=dW ([(0,box ([.bool c0]))]++oH 1 5 (l.map au)),n:=1+(oH 1 5 (l.map au)).length,log:=[] } (J.Leaves _ _ (aH (1+(oH 1 5 (l.map au)).length) _ ([(0,box ([.bool c0]))]++oH 1 5 (l.map au))));rw[hO];exact hw
def rU  (hv:Valid I Pg 103 (dH (dC (ye d)))):Valid I Pg 130 (OV 5 (some 187) (BV (Xd d))):=Valid.rd (fo Tryz.func130 bX.2) λX cs r h hp x X0 RL hX C q hq hc eN hx=>by
 obtain⟨l,c0,b,rfl,rfl,hF,rfl⟩:=IC h;obtain⟨⟨M,O⟩,rfl⟩:=bF hF;have UG:(EL [(205,OV 5 (some 187) (BV (zjK d)))]).P=Pg:=rfl;have cQ:bH I (EL [(205,OV 5 (some 187) (BV (zjK d)))]):=ag (ae (uJ hρ hv) aG);have GB:zjK d l c0=some (gU (λx=>((GL d) x c0).getD false) l 0):=if_pos ⟨M,O⟩;have qS:=Ah (λx=>((GL d) x c0).getD false) l 0 (fA _);generalize gU (λx=>((GL d) x c0).getD false) l 0=ix at GB qS;rw[<- qS]at hp ⊢;have aq:(EL [(205,OV 5 (some 187) (BV (zjK d)))]).dE 205=OV 5 (some 187) (BV (zjK d)):=rfl;have cH:=λ(k:V) (RL:Z (Nat×J.Obj)) (T:PT V) (he) (hw) (hx)=>TD (sz:=5) (g:=some 187) (X0:=k) (RL:=RL) (T:=T) (cs:=[[.bool c0]]) (x:=x) (C:=C) (q:=q) hρ cQ follows named Tryz.func130 bX.2 he hp hw hq hc eN hx
 rcases hx with⟨rfl,rfl,AD,ue⟩|⟨es,i,rfl,cb,rfl,rfl,h5,h6,h7⟩
 . rcases hX with⟨rfl,_,_⟩|⟨es,e1,e2,e3,_⟩
   . refine cH _ [] _ rfl ?_ (.inl ⟨rfl,rfl,AD,ue⟩);rw[show Tryz.f130.ntmps=9 from rfl];simp[UG,aq,GB];exact aH.bw
   . cases es with
     | nil =>
       have e0:l=[]:=by
        have e4:l.map au=[]:=by injection e1
        exact qQ.1 e4
       subst e0;have e5:X0=V.aE:=e2;subst e5;refine cH _ [] _ rfl ?_ (.inl ⟨rfl,rfl,AD,ue⟩);rw[show Tryz.f130.ntmps=9 from rfl];simp[UG,aq,GB];exact aH.bw
     |cons e es=>rw[wO]at e3;cases e3
 . rcases hX with⟨e1,e2,_⟩|⟨EV,e1,e2,e3,_⟩
   . rw[jy cb]at e2;cases e2
   . have e4:es=l.map au:=by
      have e6:l.map au=EV:=by injection e1
      rw[jy cb]at e3
      cases EV with
      |nil=>cases e3
      | cons y m =>
        rw[jy (by simp)]at e3;have e7:(J.oO 5 es)=J.oO 5 (y::m):=by injection e3 with e8;injection e8
        have e9:es=y::m:=by unfold oO at e7;injection e7
        rw[e9,<- e6]
     obtain⟨y,m,rfl⟩:=dh (λe=>cb (by rw[e4,e];rfl):l≠[]);refine cH (oV 1 es) (oH 1 5 es) _ rfl ?_ (.inr ⟨es,i,rfl,cb,rfl,rfl,h5,h6,h7⟩);subst e4;rw[show Tryz.f130.ntmps=9 from rfl];simp[UG,aq,GB];exact aH.bw
end
theorem znR{l:Z G}(hl:l.length<=100000)(C:G.bj l<=d)(ho:∀ t∈l,t.ok=true):Xd d l b=some (!G.yA b l):=by
 have hm:∀ x∈l,GL d x b=some (!x.closed b):=λx hx=>if_pos ⟨aO (G.Fp hx) C,ho x hx⟩
 unfold Xd;rw[if_pos ⟨hl,λx hx=>by rw[hm x hx];rfl⟩,G.El]
 grind
section
variable {I:Nat->Value}(hρ:J.Good I)
include hρ
theorem M9(U:E.P=Pg)(aq:bH I E)(hC:E.dE 130=OV 5 (some 187) (BV (Xd d)))(ht:t.size<=d+1)(er:t.ok=true)(C:HS) :
 aT I Pg 103 [enc t,enc b] C (enc (t.closed b)) C:=by
 refine fn hρ U aq Tryz.func103 BF.2 rfl (by simp) ?_ C;have b8:=G.size_eq t;have hlen:=G.wW er;have ef:=(G.oF.1 er).2;obtain⟨tk,tn,ti,th,tl⟩:=t;simp only[G.fC]at hlen b8 ef;have hF:Xd d tl b=some (!G.yA b tl):=znR (by omega) (by omega) ef;rw[G.closed];generalize G.yA b tl=w at hF;by_cases k4:tk=4
 . simp_all
 by_cases k3:tk=3
 . simp_all
 by_cases k2:tk=2
 . subst k2;cases b<;>cases w<;>simp[U,hC,hF]
 cases b<;>simp[U,k2,k3,k4]
def zav(d:Nat):Valid I Pg 103 (dH (dC (ye d))):=by
 induction d with
 | zero =>
   refine v2 (fo Tryz.func103 BF.2) λa b r h C=>?_
   obtain⟨⟨M,O⟩,rfl⟩:=bF h;have:=G.size_pos a;omega
 | succ d ih =>
   refine v2 (fo Tryz.func103 BF.2) λa b r h C=>?_
   obtain⟨⟨M,O⟩,rfl⟩:=bF h;exact M9 hρ (E:=EL [(130,OV 5 (some 187) (BV (Xd d)))]) rfl (ag (ae (rU hρ ih) aG)) rfl M O C
end
mutual
theorem Vk:∀ (t:G) (b:Z Int),t.xq=some b->b.length<=t.size
 | .mk k n i h l=>λb hb=>by
   rw[J.G.xq]at hb;rw[G.size_eq,G.fC];split at hb
   . cases hb;simp
   . split at hb
     . cases hb
     . have:=XY l [] b hb;simp at this;omega
theorem XY:∀ (l:Z G) (o b:Z Int),G.xE l o=some b->b.length<=o.length+G.bj l
 | []=>λo b hb=>by rw[G.xE]at hb;cases hb;simp
 | t :: l=>λo b hb=>by
   rw[G.xE]at hb;rw[G.bj]
   cases ht:t.xq with
   |none=>rw[ht]at hb;cases hb
   | some c =>
     rw[ht]at hb;have M:=Vk t c ht;have O:=XY l (pF o c) b hb;have h3:=zaz o c;omega
end
def PM(o:Y (Z Int)):Z Int×Bool:=match o with
 |some b=>(b,true)
 |none=>([],false)
def SM(d:Nat)(t:G):Y (Z Int×Bool):=if t.size<=d/\t.ok=true/\d<=10000 then some (PM t.xq)else none
def tok(t:G):Bool:=decide (t.size<=10000)&&t.ok&&t.short
def RY:tok t=true↔t.size<=10000/\t.ok=true/\t.short=true:=by simp[tok,and_assoc]
section
variable {I:Nat->Value}(hρ:J.Good I)
include hρ
section
variable (U:E.P=Pg)(aq:bH I E)
include U aq
def Fs (hC:E.dE 75=Gv)   {b O0:Z Int} (hb:b.length<=10000) (hO0:O0.length<=10000)   
 (h0:aw 0 T C (dW [(4,oV 0 (O0.map cW)),(21,.sl (tl.map au) false),(22,.int .i64 (tl.length:Int)),(23,.int .i64 (i:Int)),(34,.sl (b.map cW) false),(35,.int .i64 (b.length:Int)),(36,.int .i64 ((0:Nat):Int))]) { H:=dW (oH 0 1 (O0.map cW)),n:=1,log:=[] })
 (hQ:Q (.exit 3) (dW [(4,oV 0 ((pF O0 b).map cW)),(21,.sl (tl.map au) false),(22,.int .i64 (tl.length:Int)),(23,.int .i64 (i:Int))]) { H:=dW (oH 0 1 ((pF O0 b).map cW)),n:=1,log:=[] }) :
 Ls I E 0 51 (.loop nW) T C Q:=by
 refine vC hρ U aq b.length (nn:=1) (λj (dy:Z Int)=>[(4,oV 0 (dy.map cW)),(21,.sl (tl.map au) false),(22,.int .i64 (tl.length:Int)),(23,.int .i64 (i:Int)),(34,.sl (b.map cW) false),(35,.int .i64 (b.length:Int)),(36,.int .i64 (j:Int))]) (λj dy=>oH 0 1 (dy.map cW))
  (λj dy=>pF dy (b.drop j)=pF O0 b/\dy.length<=10000+j) O0 h0 ⟨by simp,by omega⟩ ?_ ?_
 . intro dy hO K;have Nw:=hO.1;rw[bz,pF]at Nw;rw[<- Nw]at hQ;rcases dy with _|⟨x,dy⟩<;>simp[nW,U]
   all_goals exact bO.mk (aw.auto) hQ
 . intro j dy hj hO K hK;have js:(j:Int)<b.length:=by omega
   have cy:=bI (i:=j);obtain⟨Nw,ZS⟩:=hO;rw[aK hj,pF]at Nw;by_cases hm:b[j]∈dy
   . rw[if_pos hm]at Nw;have bc:=hK dy ⟨Nw,by omega⟩;have k1:dy.length<=1000000:=by omega
     rcases dy with _|⟨x,dy⟩
     . cases hm
     . have k2:dy.length+1<=1000000:=by simpa using k1
       simp[nW,U,hj,js,hC,Gv,hm,k2,cy,-Int.natCast_add,-List.mem_cons];exact bc _ _ (aw.auto)
   . rw[if_neg hm]at Nw;have bc:=hK (dy++[b[j]]) ⟨Nw,by simp;omega⟩;have k1:dy.length<=1000000:=by omega
     rcases dy with _|⟨x,dy⟩
     . simp[nW,U,hj,js,hC,Gv,cy,-Int.natCast_add];exact bc _ _ (aw.auto)
     . have k2:dy.length+1<=1000000:=by simpa using k1
       have k3:(dy.length+1+1)*8<=1048576:=aO (aN 8 (show dy.length+1+1<=20002 by simp at ZS;omega)) (by decide);simp[nW,U,hj,js,hC,Gv,hm,k2,k3,cy,aY,-Int.natCast_add,-List.mem_cons];exact bc _ _ (aw.auto)
def MU  (hc:E.dE 188=dH (cO (SM d))) (hC:E.dE 75=Gv) (lj:d+1<=10000)  (ht:t.ok=true) (hd:t.size<=d+1) (C:HS):aT I Pg 188 [enc t] C (enc (PM t.xq)) C:=by
 refine fn hρ U aq Tryz.func188 rP.2 rfl (by simp) ?_ C;have hlen:=G.wW ht;have b8:=G.size_eq t;have ef:=(G.oF.1 ht).2;obtain⟨tk,tn,ti,th,tl⟩:=t;simp only[G.fC]at hlen b8 ef;have sf:G.bj tl<=d:=by omega
 clear b8 hd;rw[J.G.xq];by_cases k2:tk=2
 . subst k2;simp[U,PM]
 by_cases k5:tk=5
 . subst k5;simp[U,PM]
 rw[if_neg k2,if_neg k5];generalize hR:G.xE tl []=R;simp[U,k2,k5]
 refine vC hρ U aq tl.length (nn:=1) (λi (dy:Z Int)=>[(4,oV 0 (dy.map cW)),(21,.sl (tl.map au) false),(22,.int .i64 (tl.length:Int)),(23,.int .i64 (i:Int))]) (λi dy=>oH 0 1 (dy.map cW))
  (λi dy=>G.xE (tl.drop i) dy=R/\dy.length+G.bj (tl.drop i)<=d) []
  (aw.auto) ⟨by simpa using hR,by simpa using sf⟩ ?_ ?_
 . intro dy hO K;have Nw:=hO.1;rw[bz,G.xE]at Nw;subst Nw;rcases dy with _|⟨x,dy⟩<;>simp[q8,U]
   . refine bO.mk (aw.auto (TL:=[(4,.aE)]) (HL:=[]) (n:=1)) ?_;simp[U,PM]
   . refine bO.mk (aw.auto (TL:=[(4,oV 0 ((x::dy).map cW))]) (HL:=oH 0 1 ((x::dy).map cW)) (n:=1)) ?_;simp[U,PM]
 . intro i dy hi hO K hK;have cj:(i:Int)<tl.length:=by omega
   have cy:=bI (i:=i);obtain⟨Nw,ZS⟩:=hO;rw[aK hi,G.xE]at Nw;rw[aK hi,G.bj]at ZS;have rk:=ef _ (az hi);obtain⟨x,hx⟩:∃ x,tl[i]=x:=⟨_,rfl⟩;rw[hx]at Nw ZS rk;have hF:SM d x=some (PM x.xq):=if_pos ⟨by omega,rk,by omega⟩;have pT:=Vk x;generalize x.xq=q at hF Nw pT;have hol:dy.length<=10000:=by omega
   generalize x.size=z at ZS pT;cases x
   cases q with
   | none =>
     rw[show PM none=([],false) from rfl]at hF;have Nw:none=R:=Nw;subst Nw;rcases dy with _|⟨y,dy⟩<;>simp[q8,U,hi,cj,hx,hc,hF]
     all_goals
      refine bO.mk (aw.auto (TL:=[(2,.aE),(3,.bool false)]) (HL:=[]) (n:=1)) ?_;simp[U,PM]
   | some b =>
     rw[show PM (some b)=(b,true) from rfl]at hF;have Nw:G.xE (tl.drop (i+1)) (pF dy b)=R:=Nw;have pT:=pT b rfl;have hul:=zaz dy b;have bc:=hK (pF dy b) ⟨Nw,by omega⟩;rcases dy with _|⟨y,dy⟩
     . simp[q8,U,hi,cj,hx,hc,hF];refine Fs hρ U aq hC (tl:=tl) (i:=i) (b:=b) (O0:=[]) (by omega) hol (aw.auto) ?_;generalize pF [] b=yaf at bc;rcases yaf with _|⟨u,yaf⟩<;>simp[U,cy,-Int.natCast_add]
       all_goals exact bc _ _ (aw.auto)
     . simp[q8,U,hi,cj,hx,hc,hF];refine Fs hρ U aq hC (tl:=tl) (i:=i) (b:=b) (O0:=y::dy) (by omega) hol (aw.auto) ?_;generalize pF (y::dy) b=yaf at bc;rcases yaf with _|⟨u,yaf⟩<;>simp[U,cy,-Int.natCast_add]
       all_goals exact bc _ _ (aw.auto)
def OM (hc:E.dE 188=dH (cO (SM 10000))) (hV:E.dE 102=og 10000)  (ht:tok c.type=true) (C:HS):aT I Pg 106 [enc c] C (enc (jh c)) C:=by
 refine fn hρ U aq Tryz.func106 DK.2 rfl (by simp) ?_ C;obtain⟨M,O,h3⟩:=RY.1 ht;rw[<- zbf,YE];obtain⟨n,t⟩:=c;simp only[]at M O h3 ⊢;have hF:SM 10000 t=some (PM t.xq):=if_pos ⟨M,O,af _⟩;have pT:=Vk t;generalize t.xq=q at hF pT;generalize hv:t.valid=v;cases t
 cases q with
 | none =>
   rw[show PM none=([],false) from rfl]at hF;simp[U,hc,hF]
 | some b =>
   rw[show PM (some b)=(b,true) from rfl]at hF;have pT:=pT b rfl;have pT:b.length<=10000:=by omega
   cases v with
   |false=>simp[U,hc,hF,hV,og,M,h3,hv]
   | true =>
     by_cases hn:(b.length:Int)=n
     case neg=>simp[U,hc,hF,hV,og,M,h3,hv,hn]
     subst hn;simp only[decide_true,gH];generalize hr:Nu b 0=r;simp[U,hc,hF,hV,og,M,h3,hv]
     refine vC hρ U aq b.length (nn:=0) (λi (_:Unit)=>[(28,.sl (b.map cW) false),(29,.int .i64 (b.length:Int)),(30,.int .i64 (i:Int))]) (λ_ _=>[]) (λi _=>Nu (b.drop i) (i:Int)=r) ()
      (aw.auto) (by simpa using hr) ?_ ?_
     . intro _ h K;rw[bz,Nu]at h;simp[yK,U];refine bO.mk (aw.auto (TL:=[]) (HL:=[]) (n:=0)) ?_;simp[U,<- h]
     . intro i _ hi h K hK;have cj:(i:Int)<b.length:=by omega
       have cy:=bI (i:=i);rw[aK hi,Nu]at h;by_cases he:b[i]=(i:Int)
       . rw[he,decide_eq_true rfl,gH]at h;have bc:=hK () h;simp[yK,U,hi,cj,he,cy,-Int.natCast_add];exact bc _ _ (aw.auto)
       . have xF:¬ (i:Int)=b[i]:=λe=>he e.symm
         rw[decide_eq_false he,sD]at h;simp[yK,U,hi,cj,xF];refine bO.mk (aw.auto (TL:=[(2,.bool false)]) (HL:=[]) (n:=0)) ?_;simp[U,<- h]
end
def zqV(d:Nat)(hd:d<=10000):Valid I Pg 188 (dH (cO (SM d))):=by
 induction d with
 | zero =>
   refine v1 (fo Tryz.func188 rP.2) λa r h C=>?_
   obtain⟨⟨M,O,h3⟩,rfl⟩:=bF h;have:=G.size_pos a;omega
 | succ d ih =>
   refine v1 (fo Tryz.func188 rP.2) λa r h C=>?_
   obtain⟨⟨M,O,h3⟩,rfl⟩:=bF h;exact MU hρ (E:=EL [(188,dH (cO (SM d))),(75,Gv)]) rfl (ag (ae (ih (by omega)) (ae (Wx hρ) aG))) rfl rfl h3 O M C
def zrr:J.Spec:=dH (cO λc:Scheme=>if tok c.type=true then some (jh c)else none)
def zqM:Valid I Pg 106 zrr:=v1 (fo Tryz.func106 DK.2) λa r h C=>by
 obtain⟨M,rfl⟩:=bF h;exact OM hρ (E:=EL [(188,dH (cO (SM 10000))),(102,og 10000)]) rfl (ag (ae (zqV hρ 10000 (by omega)) (ae (RX hρ 10000 (by omega)) aG))) rfl rfl M C
end
def Sx(e:Entry):Y Bool:=if tok e.scheme.type=true then some (!(jh e.scheme&&e.scheme.type.closed true&&decide (e.scheme.type.size<=200)))else none
def zjI(g:Nat)(F:Entry->Y Bool)(vs:Z V):Y V:=match vs with
 | [a,.func g' []]=>gd (Nat.beq g' g) (W (bo.dec a:Y (Z Entry)) λl=>if l.length<=100000/\∀ x∈l,(F x).isSome=true then some (enc (gU (λx=>(F x).getD false) l 0))else none)
 |_=>none
def zko(g:Nat)(F:Entry->Y Bool)(vs:Z V):Y V:=match vs with
 | [a,.func g' []]=>gd (Nat.beq g' g) (W (bo.dec a:Y (Z Entry)) λl=>if l.length<=100000/\∀ x∈l,(F x).isSome=true then some (enc (l.any λx=>(F x).getD false))else none)
 |_=>none
section
variable {I:Nat->Value}(hρ:J.Good I)
include hρ
section
variable (U:E.P=Pg)(aq:bH I E)
include U aq
def zsi(hc:E.dE 105=dH (cO F))(hl:l.length<=100000)(b6:∀ x∈l,(F x).isSome=true)(C:HS) :
 aT I Pg 169 [enc l,.func 105 []] C (enc (gU (λx=>(F x).getD false) l 0)) C:=by
 refine fn hρ U aq Tryz.func169 jA.2 rfl (by simp) ?_ C;generalize hr:gU (λx=>(F x).getD false) l 0=r;simp[U]
 refine vC hρ U aq l.length (nn:=0) (λi (_:Unit)=>[(0,.sl (l.map df) false),(1,.func 105 []),(7,.int .i64 (l.length:Int)),(8,.int .i64 (i:Int))]) (λi _=>[]) (λi _=>gU (λx=>(F x).getD false) (l.drop i) (i:Int)=r) ()
  (aw.auto) (by simpa using hr) ?_ ?_
 . intro _ h K;rw[bz,gU]at h;simp[iU,U];refine bO.mk (aw.auto (TL:=[]) (HL:=[]) (n:=0)) ?_;simp[U,<- h]
 . intro i _ hi h K hK;have cj:(i:Int)<l.length:=by omega
   have cy:=bI (i:=i);have zN:(i*7) / 7=i:=by omega
   obtain⟨q,hq⟩:=bN.1 (b6 l[i] (az hi));rw[aK hi,gU,hq]at h;simp only[eu]at h
   cases q with
   | true =>
     rw[if_pos rfl]at h;simp[iU,U,hi,cj,zN,hc,hq];refine bO.mk (aw.auto (TL:=[(4,.int .i64 (i:Int))]) (HL:=[]) (n:=0)) ?_;simp[U,<- h]
   | false =>
     rw[if_neg (by decide)]at h;have bc:=hK () h;simp[iU,U,hi,cj,zN,hc,hq,cy,-Int.natCast_add];exact bc _ _ (aw.auto)
theorem zs6(hc:E.dE 169=dH (zjI 105 F))(hl:l.length<=100000)(b6:∀ x∈l,(F x).isSome=true)(C:HS) :
 aT I Pg 85 [enc l,.func 105 []] C (enc (l.any λx=>(F x).getD false)) C:=by
 refine fn hρ U aq Tryz.func85 lq.2 rfl (by simp) ?_ C;have qS:=Ah (λx=>(F x).getD false) l 0 (fA _)
 have hv:zjI 105 F [enc l,.func 105 []]=some (enc (gU (λx=>(F x).getD false) l 0)):=by
  unfold zjI
  simp_all
 simp_all
end
def zIl(hv:Valid I Pg 105 (dH (cO F))):Valid I Pg 169 (dH (zjI 105 F)):=Valid.dH (fo Tryz.func169 jA.2) λvs v h C=>by
 unfold zjI at h;split at h
 . simp only[bE,J.beq_true,aA]at h;obtain⟨rfl,l,hl,h⟩:=h;obtain⟨⟨M,O⟩,rfl⟩:=bF h;rw[bo.bq _ _ hl];exact zsi hρ (E:=EL [(105,dH (cO F))]) rfl (ag (ae hv aG)) rfl M O C
 . cases h
def zIs(hv:Valid I Pg 105 (dH (cO F))):Valid I Pg 85 (dH (zko 105 F)):=Valid.dH (fo Tryz.func85 lq.2) λvs v h C=>by
 unfold zko at h;split at h
 . simp only[bE,J.beq_true,aA]at h;obtain⟨rfl,l,hl,h⟩:=h;obtain⟨⟨M,O⟩,rfl⟩:=bF h;rw[bo.bq _ _ hl];exact zs6 hρ (E:=EL [(169,dH (zjI 105 F))]) rfl (ag (ae (zIl hρ hv) aG)) rfl M O C
 . cases h
end
def zd(l:Z Entry)(g:G):Bool:=decide (l.length<=100000)&&tok g&&l.all λe=>tok e.scheme.type
def zaC:zd l g=true↔l.length<=100000/\tok g=true/\∀ e∈l,tok e.scheme.type=true:=by simp[zd,and_assoc]
theorem ztw(h:∀ e∈l,tok e.scheme.type=true):(l.any λe=>(Sx e).getD false)=!(l.all λe=>jh e.scheme&&e.scheme.type.closed true&&decide (e.scheme.type.size<=200)):=by
 induction l with
 |nil=>rfl
 | cons a l ih =>
   have e1:Sx a=some (!(jh a.scheme&&a.scheme.type.closed true&&decide (a.scheme.type.size<=200))):=if_pos (h a aD)
   simp_all
def NK:J.Spec:=dH (dC λ(l:Z Entry) (g:G)=>if zd l g=true then some (yB l g)else none)
section
variable {I:Nat->Value}(hρ:J.Good I)
include hρ
section
variable (U:E.P=Pg)(aq:bH I E)
include U aq
def Kk(hS:E.dE 106=zrr)(hC:E.dE 103=dH (dC (ye 10000)))(hN:E.dE 104=dH (cO (wX 10000)))(ht:tok e.scheme.type=true)(C:HS) :
 aT I Pg 105 [enc e] C (enc (!(jh e.scheme&&e.scheme.type.closed true&&decide (e.scheme.type.size<=200)))) C:=by
 refine fn hρ U aq Tryz.func105 Es.2 rfl (by simp) ?_ C;obtain⟨M,O,h3⟩:=RY.1 ht;obtain⟨nm,c,t⟩:=e;simp only[]at M O h3 ht ⊢;have m7:ye 10000 t true=some (t.closed true):=if_pos ⟨M,O⟩;have n8:wX 10000 t=some (t.size:Int):=if_pos ⟨O,M,by omega⟩;generalize hsv:jh ⟨c,t⟩=v;generalize t.closed true=w at m7;have hz:(200<(t.size:Int))=¬ t.size<=200:=by simp;omega
 generalize hq:t.size=z at n8 hz;cases t;cases v<;>cases w<;>by_cases zxC:z<=200<;>simp[U,hS,zrr,ht,hsv,hC,m7,hN,n8,hz,zxC]
def Nc(hV:E.dE 102=og 10000)(hC:E.dE 103=dH (dC (ye 10000)))(hN:E.dE 104=dH (cO (wX 10000)))(hX:E.dE 85=dH (zko 105 Sx))
   (ht:zd l g=true) (C:HS):aT I Pg 56 [enc l,enc g] C (enc (yB l g)) C:=by
 refine fn hρ U aq Tryz.func56 Ho.2 rfl (by simp) ?_ C;obtain⟨hl,hg,b6⟩:=zaC.1 ht;obtain⟨M,O,h3⟩:=RY.1 hg;have m7:ye 10000 g false=some (g.closed false):=if_pos ⟨M,O⟩;have n8:wX 10000 g=some (g.size:Int):=if_pos ⟨O,M,by omega⟩
 have lB:zko 105 Sx [enc l,.func 105 []]=some (enc (!(l.all λe=>jh e.scheme&&e.scheme.type.closed true&&decide (e.scheme.type.size<=200)))):=by
  unfold zko;show gd (Nat.beq _ _) (W (bo.dec (enc l)) _)=_;rw[bo.bZ,J.beq_true.2 rfl];show (if _ then _ else _)=_;rw[if_pos ⟨hl,λx hx=>by unfold Sx;rw[if_pos (b6 x hx)];rfl⟩,ztw b6]
 unfold yB;generalize (l.all λe=>jh e.scheme&&e.scheme.type.closed true&&decide (e.scheme.type.size<=200))=A at lB;have hz:(200<(g.size:Int))=¬ g.size<=200:=by simp;omega
 generalize hv:g.valid=v;generalize g.closed false=w at m7;simp at lB;cases v<;>cases w<;>by_cases zxC:g.size<=200<;>cases A<;>simp[U,hV,og,M,h3,hv,hC,m7,hN,n8,hz,zxC,hX,lB]
end
def zia:Valid I Pg 105 (dH (cO Sx)):=v1 (fo Tryz.func105 Es.2) λa r h C=>by
 obtain⟨M,rfl⟩:=bF h;exact Kk hρ (E:=EL [(106,zrr),(103,dH (dC (ye 10000))),(104,dH (cO (wX 10000)))]) rfl (ag (ae (zqM hρ) (ae (zav hρ 10000) (ae (Yc hρ 10000) aG)))) rfl rfl rfl M C
def zqS:Valid I Pg 56 NK:=v2 (fo Tryz.func56 Ho.2) λa b r h C=>by
 obtain⟨M,rfl⟩:=bF h
 exact Nc hρ (E:=EL [(102,og 10000),(103,dH (dC (ye 10000))),(104,dH (cO (wX 10000))),(85,dH (zko 105 Sx))]) rfl
  (ag (ae (RX hρ 10000 (by omega)) (ae (zav hρ 10000) (ae (Yc hρ 10000) (ae (zIs hρ (zia hρ)) aG))))) rfl rfl rfl rfl M C
end
end Go.Proofs.YtfloillkpbhhhaaGreat
