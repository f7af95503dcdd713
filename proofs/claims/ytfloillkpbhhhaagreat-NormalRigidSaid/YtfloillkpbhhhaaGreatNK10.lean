import Derived.Test.YtfloillkpbhhhaaGreatNK9
import Derived.Test.YtfloillkpbhhhaaGreatJK12
import Derived.Test.YtfloillkpbhhhaaGreatJK11
import Derived.Test.YtfloillkpbhhhaaGreatNK6
import Derived.Test.YtfloillkpbhhhaaGreatJK9
import Derived.Test.YtfloillkpbhhhaaGreatJK10
import Derived.Test.YtfloillkpbhhhaaGreatNK8
set_option linter.all false
noncomputable section
namespace Go.Proofs.YtfloillkpbhhhaaGreat
open Go.J
open Go.J.bo (enc)
set_option maxRecDepth 100000
set_option maxHeartbeats 4000000
variable {e r:Bool}{Q:Ex->PT V->HS->Prop}{g t t2 y:G}{C:HS}{s:MS}{a a0 a1 a2 b b0 b1 b2 d f k kk m n:Nat}{T:PT V}{c sc:Scheme}{v:V}{q:V×MS×Z G}{hd k0 x:Xp}{mR tr eJ cw:Z Change}{D:Z Decl}{l l2 cL:Z G}{sl da cY cR:Z Slot}{X ks:Z Xp}
def Dk(d f:Nat)(_:Z Decl)(s:MS)(l:Z G)(args:Z V):Y (V×MS×Z G):=match args with
 | [cv,.int .i64 k,gv]=>W (bo.dec cv:Y Scheme) λc=>W (bo.dec gv:Y G) λg=>if 0<=k/\k<=1000/\l.length<=10000 then W (Ea s [enc c]) λq=>W (bo.dec q.1:Y G) λr0=>W (uy d f k.toNat q.2 r0 []) λR=>W (Ko d f g R) λr=>some (.tuple [.sl (r.1.map au) false,.bool r.2.1],r.2.2,l++[r0])else none
 |_=>none
def zb8{s1 s2:MS}{r0:G}{R:Y (Z G×G)×MS}{acc:Z G}(hk:k<=1000)(hl:l.length<=10000)(M:Ea s [enc c]=some (enc r0,s1))(O:uy d f k s1 r0 []=some R)(h3:Ko d f g R=some (acc,e,s2)) :
 Dk d f D s l [enc c,.int .i64 (k:Int),enc g]=some (.tuple [.sl (acc.map au) false,.bool e],s2,l++[r0]):=by
 have h0:(0:Int)<=k/\(k:Int)<=1000/\l.length<=10000:=⟨by omega,by omega,hl⟩;show W (bo.dec (enc c):Y Scheme) _=_;rw[bo.bZ,bU,bo.bZ,bU,if_pos h0,M,bU,bo.bZ,bU,bP,O,bU,h3,bU]
def JY{args:Z V}(h:Dk d f D s l args=some q):∃ (c:Scheme) (k:Nat) (g r0:G) (s1 s2:MS) (R:Y (Z G×G)×MS) (acc:Z G) (e:Bool),
 args=[enc c,.int .i64 (k:Int),enc g]/\k<=1000/\l.length<=10000/\Ea s [enc c]=some (enc r0,s1)/\uy d f k s1 r0 []=some R/\Ko d f g R=some (acc,e,s2)/\q=(.tuple [.sl (acc.map au) false,.bool e],s2,l++[r0]):=by
 unfold Dk at h;split at h
 . rename_i cv k gv;simp only[aA]at h;obtain⟨c,hc,g,hg,h⟩:=h;have e1:=bo.bq _ _ hc;have e2:=bo.bq _ _ hg;subst e1 e2;split at h
   . rename_i hh;simp only[aA]at h;obtain⟨⟨v,s1⟩,M,r0,xa,R,O,⟨acc,e,s2⟩,h3,h⟩:=h;have e3:=bo.bq _ _ xa;subst e3;cases h;refine⟨c,k.toNat,g,r0,s1,s2,R,acc,e,by rw[Int.toNat_of_nonneg hh.1],by omega,hh.2.2,M,O,h3,rfl⟩
   . cases h
 . cases h
def Gu :∀ {k:Nat} {s:MS} {r:G} {acc:Z G} {R:Y (Z G×G)×MS},uy d f k s r acc=some R->(∀ a b,s.z=some (a,b)->∃ a2 b2,R.2.z=some (a2,b2))/\(s.z=none->R.2=s)
 | 0,s,r,acc,R,h=>by
   cases h;exact⟨λa b h=>⟨a,b,h⟩,λ_=>rfl⟩
 | k + 1,s,r,acc,R,h=>by
   rw[uy]at h;simp only[aA]at h;obtain⟨q,hq,h⟩:=h;obtain⟨z,sl,tr⟩:=s
   cases z with
   | none =>
     obtain⟨x,y,is,rfl⟩:=yu hq;refine⟨λa b h=>(by cases h),λ_=>?_⟩
     cases is with
     | true =>
       simp only[bo.bZ,bU]at h;exact(Gu h).2 rfl
     |false=>exact congrArg Prod.snd (bS h).symm
   | some z =>
     obtain⟨a,b⟩:=z;obtain⟨x,y,is,e1,a2,b2,e2⟩:=Ai hq;obtain⟨qv,z2,cR,cw⟩:=q;simp only at e1 e2;subst e1 e2;refine⟨λ_ _ _=>?_,λh=>by cases h⟩
     cases is with
     | true =>
       simp only[bo.bZ,bU]at h;exact(Gu h).1 _ _ rfl
     |false=>cases h;exact⟨_,_,rfl⟩
def Xl{R:Y (Z G×G)×MS}{acc:Z G}{s2:MS}(h:Ko d f g R=some (acc,e,s2))(hR:R.2.z=some (a,b)):∃ a2 b2,s2.z=some (a2,b2):=by
 obtain⟨R,s⟩:=R
 cases R with
 |none=>obtain⟨_,_,rfl⟩:=FE h;exact⟨a,b,hR⟩
 | some p =>
   obtain⟨_,e1,a1,b1,cY,mR,_,hh⟩:=Dm h;rcases hh with⟨_,_,rfl⟩|⟨_,e2,a2,b2,cR,cw,_,⟨_,_,rfl⟩|⟨_,a3,b3,F4,Ff,_,rfl⟩⟩
   . exact⟨_,_,rfl⟩
   . exact⟨_,_,rfl⟩
   . exact⟨_,_,rfl⟩
def TN{args:Z V}{s1:MS}(h:Ea s args=some (v,s1)):(∀ a b,s.z=some (a,b)->∃ a2 b2,s1.z=some (a2,b2))/\(s1.z=none->s1=s):=by
 obtain⟨c,_,_,_,_,_,hq⟩:=OY h;cases hq
 cases oU c with
 |zero=>exact⟨λa b h=>⟨a,b,h⟩,λ_=>rfl⟩
 | succ k =>
   refine⟨λa b _=>?_,λh=>by cases h⟩;exact⟨_,_,rfl⟩
section
variable {I:Nat->Value}(hρ:J.Good I)
include hρ
def zqU(d f:Nat):Valid I Pg 81 (eY (VL (Dk d f))):=by
 refine Valid.sym (fo Tryz.func81 ou.2) λvs C D h=>?_
 obtain⟨args,n,Ds,s,s',l,l',r,ds,b,c,dd,e,hF,hz,BW,BJ,rfl,_,hr,hg,b4⟩:=J9 h;obtain⟨cc,k,g,r0,s1,s2,R,acc,e,rfl,hk,hl,M,O,h3,hq⟩:=JY hF;cases hq
 have cQ:∀ ρ',J.Good ρ'->bH ρ' (EL [(165,eY (C9 0 Ea)),(125,eY (C9 0 (iE d f))),(166,eY (C9 0 (yE d f))),(167,eY (C9 0 (jD d f)))]):=λρ' fF =>
  ag (ae (zqT fF) (ae (Qc fF d f) (ae (zgk fF d f) (ae (Mv fF d f) aG))))
 refine SY hρ follows named Tryz.func81 ou.2 rfl hg (λρ' fF=>⟨_,rfl,cQ ρ' fF,?_⟩) (λ_ _ h=>h) b4;obtain⟨_|⟨a1,b1⟩,cY,mR⟩:=s1
 . obtain rfl:=(TN M).2 rfl;obtain⟨rfl,rfl,rfl⟩:=hz rfl;exact RB fF rfl (cQ ρ' fF) rfl rfl rfl rfl BJ hk M O h3
 . obtain⟨a2,b2,e2⟩:=(Gu O).1 _ _ rfl;obtain⟨a3,b3,e3⟩:=Xl h3 e2;obtain⟨z2,cR,cw⟩:=s';cases e3;exact RD fF rfl (cQ ρ' fF) rfl rfl rfl rfl BJ hk hz hl M O h3
end
section
variable {I:Nat->Value}(hρ:J.Good I)
include hρ
section
variable {E:Env}(U:E.P=Pg)(aq:bH I E)
include U aq
def NQ  (hF:E.dE 200=eY (C9 0 EO)) (hC:E.dE 88=K3) (hQ:E.dE 167=eY (C9 0 (jD d f)))
 {n:MN} (BJ:n.n<=900)  {i:Nat} (hi:i<D.length) (hD:D.length<=1000) (zNW:D[i].params.length=k) (hk:k<=1000)       (fX:l.length<=10000) (hl:da.length+k<=10000) (ht:eJ.length+k<=8000)
 (M:iK ⟨some (a0,b0),da,eJ⟩ k=⟨some (a1,b1),cY,mR⟩) (O:jD d f ⟨some (a1,b1),cY,mR⟩ [enc t,enc (G.mk 4 D[i].name 0 0 (cz da.length k))]=some (.bool e,⟨some (a2,b2),cR,cw⟩)) :
 Wp I E (Kr (some (a0,b0)) l) 56 mD.1 (((PT.leaf.set 0 (.ptr 0 0 0)).set 1 (enc t)).set 2 (.int .i64 (i:Int))) { H:=dW (uC n D ⟨some (a0,b0),da,eJ⟩ l),n:=Kr (some (a0,b0)) l,log:=[] }
  (J.Leaves E.P Tryz.f203 λv C=>aH (Kr (some (a0,b0)) l) (.tuple [.sl ((cz da.length k).map au) false,.bool e]) (uC n D ⟨some (a2,b2),cR,cw⟩ (l++[t])) v C\/vZ (Kr (some (a0,b0)) l) (.tuple [.sl ((cz da.length k).map au) false,.bool e]) (uC n D ⟨some (a2,b2),cR,cw⟩ (l++[t])) v C):=by
 obtain⟨n,hn⟩:=n;simp only at BJ;have lb:n+1<=1000:=by omega
 have hz:ofConst (Value.agg #[.int .i64 0,.string {data:=#[]},.int .i64 0,.int .i64 0,.slice none 0 0])=some (V.agg [.int .i64 0,.str [],.int .i64 0,.int .i64 0,.aE]):=by rfl
 have r0:(l.length+1)*64<=1048576:=by omega
 have r1:k*64<=1048576:=by omega
 have r2:k*5<=1048576:=by omega
 have m1:i*4 / 4=i:=by omega
 have m2:(i*4+2) / 4=i:=by omega
 have m4:(i*4+1) / 4=i:=by omega
 have ka:(cz da.length k).length=k:=AJ;obtain⟨nm,u4⟩:∃ nm,D[i].name=nm:=⟨_,rfl⟩;rw[u4]at O;have zEc:D[i].params.length=k:=zNW;obtain⟨tk,tn,ti,th,tl⟩:=t
 cases l with
 | nil =>
   rw[iI];simp[U,hi,hD,m1,m2,aP,zEc,r1,r2,aJ]
   try refine⟨rfl,?_⟩
   refine vC hρ U aq k (nn:=5) (λj (_:Nat×Nat×Z Slot×Z Change)=>[(0,.ptr 0 0 0),(2,.int .i64 (i:Int)),(4,.ptr 3 0 0),(6,.aE),(7,.bool false),(8,.own 4 0 0 k (some k)),(21,.int .i64 (k:Int)),(22,.int .i64 (j:Int))])
    (λj st=>[(0,.arr (n+4) 0 [.sl (D.map aP) false::.own 1 st.1 0 st.2.2.1.length none::.own 2 st.2.1 0 st.2.2.2.length none::.aE::jS 4 n] true false false),(1,.arr 8 st.1 (st.2.2.1.map dG) false false true),(2,.arr 10 st.2.1 (st.2.2.2.map bW) false false true),(3,box (au (.mk tk tn ti th tl))),(4,.arr 5 0 (nL (cz da.length k) k j) true false true)])
    (λj st=>iK ⟨some (a0,b0),da,eJ⟩ j=⟨some (st.1,st.2.1),st.2.2.1,st.2.2.2⟩) (a0,b0,da,eJ)
    (aw.auto (hH:=by simp[zR,Ya])) rfl ?_ ?_
   . rintro ⟨a,b,sl,tr⟩ s9 K;simp only at s9;rw[M]at s9;cases s9;rw[zT ka];have nh:k<=(cz da.length k).length:=by omega
     have mA:List.take k ((cz da.length k).map au)=(cz da.length k).map au:=aZ (by rw[aL];omega);have V1:(cz da.length k).length<=1000:=by omega
     generalize cz da.length k=vs at O ka nh mA V1;simp[kF,U];refine bO.mk (aw.auto (TL:=[(0,.ptr 0 0 0),(2,.int .i64 (i:Int)),(4,.ptr 3 0 0),(8,.own 4 0 0 k (some k))]) (HL:=[(0,.arr (n+4) 0 [.sl (D.map aP) false::.own 1 a1 0 cY.length none::.own 2 b1 0 mR.length none::.aE::jS 4 n] true false false),(1,.arr 8 a1 (cY.map dG) false false true),(2,.arr 10 b1 (mR.map bW) false false true),(3,box (au (.mk tk tn ti th tl))),(4,.arr 5 0 (vs.map au) true false true)]) (n:=5)) ?_;simp at O
     cases vs with
     | nil =>
       cases ka;simp at O;simp[U,hC,hQ,hn,lb,hi,m1,m4,aP,u4,hz,r0,O,KJ,aJ];exact .inr (vZ.auto)
     | cons v vs =>
       cases ka;simp at O mA V1;simp[U,hC,Du,hQ,hn,lb,hi,m1,m4,aP,u4,hz,r0,O,V1,mA,aJ];exact .inr (vZ.auto)
   . rintro j ⟨a,b,sl,tr⟩ hj C K hK;simp only at C;have js:(j:Int)<k:=by omega
     have cy:=bI (i:=j);have n9:sl.length=da.length+j:=by have:=Fy ⟨some (a0,b0),da,eJ⟩ j;rw[C]at this;exact this
     have oE:tr.length=eJ.length+j:=by have:=Fx ⟨some (a0,b0),da,eJ⟩ j;rw[C]at this;exact this
     have hA:=Kg (s:=⟨some (a,b),sl,tr⟩) (h:=1000000) (b:=false) (by simp only;omega) (by simp only;omega);have la:iK ⟨some (a0,b0),da,eJ⟩ (j+1)=o7 ⟨some (a,b),sl,tr⟩ 1000000 false:=by show o7 (iK _ j) _ _=_;rw[C]
     obtain⟨F4,iu⟩:∃ q,(o7 ⟨some (a,b),sl,tr⟩ 1000000 false).sl=q:=⟨_,rfl⟩;obtain⟨Ff,sC⟩:∃ q,(o7 ⟨some (a,b),sl,tr⟩ 1000000 false).tr=q:=⟨_,rfl⟩;have Wb:o7 ⟨some (a,b),sl,tr⟩ 1000000 false=⟨some (a+1,b+1),F4,Ff⟩:=by rw[<- iu,<- sC];rfl
     rw[Wb]at hA la;have bc:=hK (a+1,b+1,F4,Ff) la;have Xh:j<(nL (cz da.length k) k j).length:=by rw[Cy ka (dN hj)];exact hj
     have m9:=zS ka hj Xh;rw[Ec,<- n9]at m9;have zN:(j*5) / 5=j:=by omega
     have Ms:(j*5) % 5=0:=by omega
     simp only at hA;generalize fq (sl.length:Int)=y at hA m9;cases y;simp[kQ]at m9;simp[-lX,-lW]at hA;simp[-lX,-lW,kF,U,hF,hn,lb,hj,js,hA,cy,Xh,zN,Ms,m9,aJ,-Int.natCast_add];exact bc _ _ (aw.auto)
 | cons t0 l =>
   rw[eU];rw[aX]at r0;have Zm:(V.int .i64 ((l.length:Int)+1)).nat?=some (l.length+1):=by rfl
   obtain⟨zLB,zLz,zLC,zLD,zLA⟩:=t0;simp[U,hi,hD,m1,m2,aP,zEc,r1,r2,aJ]
   try refine⟨rfl,?_⟩
   refine vC hρ U aq k (nn:=6) (λj (_:Nat×Nat×Z Slot×Z Change)=>[(0,.ptr 0 0 0),(2,.int .i64 (i:Int)),(4,.ptr 4 0 0),(6,.aE),(7,.bool false),(8,.own 5 0 0 k (some k)),(21,.int .i64 (k:Int)),(22,.int .i64 (j:Int))])
    (λj st=>[(0,.arr (n+4) 0 [.sl (D.map aP) false::.own 1 st.1 0 st.2.2.1.length none::.own 2 st.2.1 0 st.2.2.2.length none::.own 3 l.length 0 (l.length+1) none::jS 4 n] true false false),(1,.arr 8 st.1 (st.2.2.1.map dG) false false true),(2,.arr 10 st.2.1 (st.2.2.2.map bW) false false true),(3,.arr 5 l.length (au (.mk zLB zLz zLC zLD zLA)::l.map au) false false true),(4,box (au (.mk tk tn ti th tl))),(5,.arr 5 0 (nL (cz da.length k) k j) true false true)])
    (λj st=>iK ⟨some (a0,b0),da,eJ⟩ j=⟨some (st.1,st.2.1),st.2.2.1,st.2.2.2⟩) (a0,b0,da,eJ)
    (aw.auto (hH:=by simp[zR,Ya])) rfl ?_ ?_
   . rintro ⟨a,b,sl,tr⟩ s9 K;simp only at s9;rw[M]at s9;cases s9;rw[zT ka];have nh:k<=(cz da.length k).length:=by omega
     have mA:List.take k ((cz da.length k).map au)=(cz da.length k).map au:=aZ (by rw[aL];omega);have V1:(cz da.length k).length<=1000:=by omega
     generalize cz da.length k=vs at O ka nh mA V1;simp[kF,U];refine bO.mk (aw.auto (TL:=[(0,.ptr 0 0 0),(2,.int .i64 (i:Int)),(4,.ptr 4 0 0),(8,.own 5 0 0 k (some k))]) (HL:=[(0,.arr (n+4) 0 [.sl (D.map aP) false::.own 1 a1 0 cY.length none::.own 2 b1 0 mR.length none::.own 3 l.length 0 (l.length+1) none::jS 4 n] true false false),(1,.arr 8 a1 (cY.map dG) false false true),(2,.arr 10 b1 (mR.map bW) false false true),(3,.arr 5 l.length (au (.mk zLB zLz zLC zLD zLA)::l.map au) false false true),(4,box (au (.mk tk tn ti th tl))),(5,.arr 5 0 (vs.map au) true false true)]) (n:=6)) ?_;simp at O
     cases vs with
     | nil =>
       cases ka;simp at O;simp[U,hC,hQ,hn,lb,hi,m1,m4,aP,u4,hz,r0,Zm,aY,O,KJ,aJ];exact .inr (vZ.bw)
     | cons v vs =>
       cases ka;simp at O mA V1;simp[U,hC,Du,hQ,hn,lb,hi,m1,m4,aP,u4,hz,r0,Zm,aY,O,V1,mA,aJ];exact .inr (vZ.bw)
   . rintro j ⟨a,b,sl,tr⟩ hj C K hK;simp only at C;have js:(j:Int)<k:=by omega
     have cy:=bI (i:=j);have n9:sl.length=da.length+j:=by have:=Fy ⟨some (a0,b0),da,eJ⟩ j;rw[C]at this;exact this
     have oE:tr.length=eJ.length+j:=by have:=Fx ⟨some (a0,b0),da,eJ⟩ j;rw[C]at this;exact this
     have hA:=Kg (s:=⟨some (a,b),sl,tr⟩) (h:=1000000) (b:=false) (by simp only;omega) (by simp only;omega);have la:iK ⟨some (a0,b0),da,eJ⟩ (j+1)=o7 ⟨some (a,b),sl,tr⟩ 1000000 false:=by show o7 (iK _ j) _ _=_;rw[C]
     obtain⟨F4,iu⟩:∃ q,(o7 ⟨some (a,b),sl,tr⟩ 1000000 false).sl=q:=⟨_,rfl⟩;obtain⟨Ff,sC⟩:∃ q,(o7 ⟨some (a,b),sl,tr⟩ 1000000 false).tr=q:=⟨_,rfl⟩;have Wb:o7 ⟨some (a,b),sl,tr⟩ 1000000 false=⟨some (a+1,b+1),F4,Ff⟩:=by rw[<- iu,<- sC];rfl
     rw[Wb]at hA la;have bc:=hK (a+1,b+1,F4,Ff) la;have Xh:j<(nL (cz da.length k) k j).length:=by rw[Cy ka (dN hj)];exact hj
     have m9:=zS ka hj Xh;rw[Ec,<- n9]at m9;have zN:(j*5) / 5=j:=by omega
     have Ms:(j*5) % 5=0:=by omega
     simp only at hA;generalize fq (sl.length:Int)=y at hA m9;cases y;simp[kQ]at m9;simp[-lX,-lW]at hA;simp[-lX,-lW,kF,U,hF,hn,lb,hj,js,hA,cy,Xh,zN,Ms,m9,aJ,-Int.natCast_add];exact bc _ _ (aw.auto)
end
def rJ (d f:Nat) (D:Z Decl) (s:MS) (l:Z G) (args:Z V):Y (V×MS×Z G):=match args with
 | [tv,.int .i64 i]=>W (bo.dec tv:Y G) λt=>W D[i.toNat]? λdd=>(match s.z with
   |none=>none
   | some _=>if 0<=i/\D.length<=1000/\dd.params.length<=1000/\l.length<=10000/\s.sl.length+dd.params.length<=10000/\s.tr.length+dd.params.length<=8000 then
     W (jD d f (iK s dd.params.length) [enc t,enc (G.mk 4 dd.name 0 0 (cz s.sl.length dd.params.length))]) λq=>(match q.1 with
      |.bool e=>some (.tuple [.sl ((cz s.sl.length dd.params.length).map au) false,.bool e],q.2,l++[t])
      |_=>none)else none)
 |_=>none
omit hρ in
def yI     {args:Z V}  (h:rJ d f D s l args=some q):∃ (t:G) (i:Nat) (hi:i<D.length) (a0 b0 a2 b2:Nat) (cR:Z Slot) (cw:Z Change) (e:Bool),
 args=[enc t,.int .i64 (i:Int)]/\s.z=some (a0,b0)/\D.length<=1000/\D[i].params.length<=1000/\l.length<=10000/\s.sl.length+D[i].params.length<=10000/\s.tr.length+D[i].params.length<=8000 /\
 jD d f (iK s D[i].params.length) [enc t,enc (G.mk 4 D[i].name 0 0 (cz s.sl.length D[i].params.length))]=some (.bool e,⟨some (a2,b2),cR,cw⟩)/\q=(.tuple [.sl ((cz s.sl.length D[i].params.length).map au) false,.bool e],⟨some (a2,b2),cR,cw⟩,l++[t]):=by
 unfold rJ at h;split at h
 . rename_i tv i;simp only[aA]at h;obtain⟨t,ht,dd,ld,h⟩:=h;have e1:=bo.bq _ _ ht;subst e1;split at h
   . cases h
   . rename_i z hz;split at h
     . rename_i hh;simp only[aA]at h;obtain⟨q1,M,h⟩:=h;obtain⟨hi,rfl⟩:=aM.1 ld;obtain⟨e,a2,b2,cR,cw,rfl⟩:=UN M;cases h;obtain⟨a0,b0⟩:=z;exact⟨t,i.toNat,hi,a0,b0,a2,b2,cR,cw,e,by rw[Int.toNat_of_nonneg hh.1],hz,hh.2.1,hh.2.2.1,hh.2.2.2.1,hh.2.2.2.2.1,hh.2.2.2.2.2,M,rfl⟩
     . cases h
 . cases h
omit hρ in
def zbP(h:s.z=some (a,b)):∀ k,∃ (a2 b2:Nat) (cR:Z Slot) (cw:Z Change),iK s k=⟨some (a2,b2),cR,cw⟩
 | 0=>by obtain⟨z,sl,tr⟩:=s;cases h;exact⟨_,_,_,_,rfl⟩
 | k+1=>by
   show ∃ a2 b2 cR cw,o7 (iK s k) 1000000 false=_;exact⟨_,_,_,_,rfl⟩
def zdy(d f:Nat):Valid I Pg 203 (eY (VL (rJ d f))):=by
 refine Valid.sym (fo Tryz.func203 mD.2) λvs C D h=>?_
 obtain⟨args,n,Ds,s,s',l,l',r,ds,b,c,dd,e,hF,hz,BW,BJ,rfl,_,hr,hg,b4⟩:=J9 h;obtain⟨t,i,hi,a0,b0,a2,b2,cR,cw,e,rfl,b8,M,O,h3,h4,h5,h6,hq⟩:=yI hF;cases hq
 have cQ:∀ ρ',J.Good ρ'->bH ρ' (EL [(200,eY (C9 0 EO)),(88,K3),(167,eY (C9 0 (jD d f)))]):=λρ' fF =>
  ag (ae (SB fF) (ae (zlC fF) (ae (Mv fF d f) aG)))
 obtain⟨a1,b1,cY,mR,hm⟩:=zbP b8 Ds[i].params.length;cases s;simp only at b8;subst b8;rw[hm]at h6;exact SY hρ follows named Tryz.func203 mD.2 rfl hg (λρ' fF=>⟨_,rfl,cQ ρ' fF,NQ fF rfl (cQ ρ' fF) rfl rfl rfl BJ hi M rfl O h3 h4 h5 hm h6⟩) (λ_ _ h=>h) b4
end
def wF(sl:Z Slot)(tr:Z Change)(t:G):Bool:=decide (200<sz (ao.w ⟨sl,tr⟩) t 200)
def Nd(R:ZZ)(v:V):Y V:=W (bo.dec v:Y G) λt=>if (⟨R.sl,R.tr⟩:ao).ll/\t.ok=true then some (.bool (wF R.sl R.tr t))else none
def ztt{R:ZZ}(M:(⟨R.sl,R.tr⟩:ao).ll)(O:t.ok=true):Nd R (enc t)=some (.bool (wF R.sl R.tr t)):=by
 unfold Nd;rw[bo.bZ,bU,if_pos ⟨M,O⟩]
def zpb{R:ZZ}{q:V}(h:Nd R v=some q):∃ t:G,v=enc t/\(⟨R.sl,R.tr⟩:ao).ll/\t.ok=true/\q=.bool (wF R.sl R.tr t):=by
 unfold Nd at h;simp only[aA]at h;obtain⟨t,ht,h⟩:=h;obtain⟨M,rfl⟩:=bF h;exact⟨t,(bo.bq _ _ ht).symm ▸ rfl,M.1,M.2,rfl⟩
def zhi(R:ZZ):Y V:=if (⟨R.sl,R.tr⟩:ao).ll/\(∀ t∈R.t::R.l,t.ok=true)/\R.l.length<=20000 then some (.int .i64 (gU (wF R.sl R.tr) (R.t::R.l) 0))else none
def zhL(R:ZZ):Y V:=if (⟨R.sl,R.tr⟩:ao).ll/\(∀ t∈R.t::R.l,t.ok=true)/\R.l.length<=20000 then some (.bool ((R.t::R.l).any (wF R.sl R.tr)))else none
def Lr(_:Z Decl)(s:MS)(l:Z G)(args:Z V):Y (V×MS×Z G):=match args,s.z,l with
 | [],some _,t::l=>if (⟨s.sl,s.tr⟩:ao).ll/\(∀ u∈t::l,u.ok=true)/\l.length<=20000 then some (.bool (!(t::l).any (wF s.sl s.tr)),s,t::l)else none
 |_,_,_=>none
def zdV{args:Z V}(h:Lr D s l args=some q):∃ a b t l',args=[]/\s.z=some (a,b)/\l=t::l'/\(⟨s.sl,s.tr⟩:ao).ll/\(∀ u∈t::l',u.ok=true)/\l'.length<=20000/\q=(.bool (!(t::l').any (wF s.sl s.tr)),s,t::l'):=by
 unfold Lr at h;split at h
 . rename_i z t l' hz;obtain⟨M,rfl⟩:=bF h;obtain⟨a,b⟩:=z;exact⟨a,b,t,l',rfl,hz,rfl,M.1,M.2.1,M.2.2,rfl⟩
 . cases h
section
variable {I:Nat->Value}(hρ:J.Good I)
include hρ
section
variable {E:Env}(U:E.P=Pg)(aq:bH I E)
include U aq
theorem PG(hZ:E.dE 132=pR){R:ZZ}(M:(⟨R.sl,R.tr⟩:ao).ll)(O:t.ok=true) :
 Wp I E 5 11 pO.1 ((PT.leaf.set 0 (enc t)).set 1 (.ptr 0 0 0)) { H:=dW (CP R),n:=5,log:=[] } (J.Leaves E.P Tryz.f131 (aH 5 (.bool (wF R.sl R.tr t)) (CP R))):=by
 obtain⟨⟨n,hn⟩,D,ga,gb,sl,tr,ts,l⟩:=R;obtain⟨q,hq⟩:∃ q,sz (ao.w ⟨sl,tr⟩) t 200=q:=⟨_,rfl⟩;simp only[wF];rw[hq];have e2:(max (200:Int) 0).toNat=200:=by decide
 have e:decide ((200:Int)<(q:Int))=decide (200<q):=by
  by_cases h:200<q
  . rw[decide_eq_true h,decide_eq_true (by omega)]
  . rw[decide_eq_false h,decide_eq_false (by omega)]
 rw[<- e];simp only at M;cases t;simp[U,hZ,pR,M,O,e2,hq];exact aH.fu rfl rfl rfl (by simp)
def PD(hC:E.dE 131=Yw (ziz Nd)){R:ZZ}(M:(⟨R.sl,R.tr⟩:ao).ll)(O:∀ t∈R.t::R.l,t.ok=true)(h3:R.l.length<=20000) :
 Wp I E 5 19 bJ.1 ((PT.leaf.set 0 (.own 4 R.l.length 0 (R.l.length+1) none)).set 1 (.func 131 [.ptr 0 0 0])) { H:=dW (CP R),n:=5,log:=[] }
  (J.Leaves E.P Tryz.f205 (aH 5 (.int .i64 (gU (wF R.sl R.tr) (R.t::R.l) 0)) (CP R))):=by
 obtain⟨r,hr⟩:∃ r,gU (wF R.sl R.tr) (R.t::R.l) 0=r:=⟨_,rfl⟩;rw[hr];have b6:∀ t∈R.t::R.l,Nd R (enc t)=some (.bool (wF R.sl R.tr t)):=λt ht=>ztt M (O t ht)
 obtain⟨⟨n,hn⟩,D,ga,gb,sl,tr,ts,l⟩:=R;simp only at hr M O h3 b6 ⊢;generalize hbg:wF sl tr=bg at hr b6;obtain⟨L,hL⟩:∃ L,ts::l=L:=⟨_,rfl⟩;have KR:L.length=l.length+1:=by rw[<- hL];rfl
 have Hb:L.map au=au ts::l.map au:=by rw[<- hL];rfl
 rw[hL]at hr b6;obtain⟨tk,tn,ti,th,tl⟩:=ts;simp[U]
 refine vC hρ U aq L.length (nn:=5) (λi (_:Unit)=>[(0,.own 4 l.length 0 (l.length+1) none),(1,.func 131 [.ptr 0 0 0]),(7,.int .i64 (L.length:Int)),(8,.int .i64 (i:Int))])
  (λi _=>[(0,jm (.ptr 1 0 0)),(1,.arr (n+4) 0 [.sl (D.map aP) false::.own 2 ga 0 sl.length none::.own 3 gb 0 tr.length none::.own 4 l.length 0 (l.length+1) none::jS 4 n] true false false),(2,.arr 8 ga (sl.map dG) false false true),(3,.arr 10 gb (tr.map bW) false false true),(4,.arr 5 l.length (L.map au) false false true)])
  (λi _=>gU bg (L.drop i) (i:Int)=r) ()
  (aw.auto (by simp[KR]) (by simp[Hb])) (by simpa using hr) ?_ ?_
 . intro _ h K;rw[bz,gU]at h;simp[bf,U];refine bO.mk (aw.auto (TL:=[]) (HL:=CP ⟨⟨n,hn⟩,D,ga,gb,sl,tr,.mk tk tn ti th tl,l⟩) (n:=5) (hH:=by simp[Hb])) ?_;simp[U,<- h];exact aH.fu rfl rfl rfl (by simp)
 . intro i _ hi h K hK;have pP:i<l.length+1:=by omega
   have GC:(i:Int)<(l.length:Int)+1:=by omega
   have cy:=bI (i:=i);have zN:(i*5) / 5=i:=by omega
   have Ms:(i*5) % 5=0:=by omega
   have hb:=b6 L[i] (az hi);rw[aK hi,gU]at h;have zJZ:(L.map au)[i]?=some (au L[i]):=by rw[bC,ax hi];rfl
   obtain⟨y,hy⟩:∃ y,L[i]=y:=⟨_,rfl⟩;rw[hy]at hb h zJZ;obtain⟨q,hq⟩:∃ q,bg y=q:=⟨_,rfl⟩;rw[hq]at hb h;obtain⟨yk,yn,yi,yh,yl⟩:=y
   have zD6:∀ h,([.int .i64 tk,.str tn,.int .i64 ti,.int .i64 th,.sl (tl.map au) false]::l.map au)[i]'h=[.int .i64 yk,.str yn,.int .i64 yi,.int .i64 yh,.sl (yl.map au) false]:=by
    intro h;rw[Hb,kQ,kQ]at zJZ;exact(aM.1 zJZ).2
   simp at hb
   cases q with
   | true =>
     rw[if_pos rfl]at h;simp[bf,U,hi,pP,GC,zN,Ms,zD6,KR,hC,hn,Hb,hb];refine bO.mk (aw.auto (TL:=[(4,.int .i64 (i:Int))]) (HL:=CP ⟨⟨n,hn⟩,D,ga,gb,sl,tr,.mk tk tn ti th tl,l⟩) (n:=5) (hH:=by simp[Hb])) ?_;simp[U,<- h];exact aH.fu rfl rfl rfl (by simp)
   | false =>
     rw[if_neg (by decide)]at h;have bc:=hK () h;simp[bf,U,hi,pP,GC,zN,Ms,zD6,KR,hC,hn,Hb,hb,cy,-Int.natCast_add];exact bc _ _ (aw.auto (by simp[KR,-Int.natCast_add]) (by simp[Hb]))
theorem PE(hC:E.dE 205=Yw (YA 131 zhi)){R:ZZ}(M:(⟨R.sl,R.tr⟩:ao).ll)(O:∀ t∈R.t::R.l,t.ok=true)(h3:R.l.length<=20000) :
 Wp I E 5 9 bX.1 ((PT.leaf.set 0 (.own 4 R.l.length 0 (R.l.length+1) none)).set 1 (.func 131 [.ptr 0 0 0])) { H:=dW (CP R),n:=5,log:=[] }
  (J.Leaves E.P Tryz.f130 (aH 5 (.bool ((R.t::R.l).any (wF R.sl R.tr))) (CP R))):=by
 have qS:=Ah (wF R.sl R.tr) (R.t::R.l) 0 (fA _);have hv:zhi R=some (.int .i64 (gU (wF R.sl R.tr) (R.t::R.l) 0)):=if_pos ⟨M,O,h3⟩;generalize gU (wF R.sl R.tr) (R.t::R.l) 0=x at qS hv;rw[<- qS];obtain⟨⟨n,hn⟩,D,ga,gb,sl,tr,ts,l⟩:=R;cases ts;simp[U,hC,hn,hv];exact aH.fu rfl rfl rfl (by simp)
theorem Ry(hC:E.dE 130=Yw (YA 131 zhL)){n:MN}{ga gb:Nat}(M:(⟨sl,tr⟩:ao).ll)(O:∀ u∈t::l,u.ok=true)(h3:l.length<=20000) :
 Wp I E 4 10 rf.1 (PT.leaf.set 0 (.ptr 0 0 0)) { H:=dW (uC n D ⟨some (ga,gb),sl,tr⟩ (t::l)),n:=4,log:=[] } (J.Leaves E.P Tryz.f61 (aH 4 (.bool (!(t::l).any (wF sl tr))) (uC n D ⟨some (ga,gb),sl,tr⟩ (t::l)))):=by
 obtain⟨n,hn⟩:=n;have hv:zhL ⟨⟨n,hn⟩,D,ga,gb,sl,tr,t,l⟩=some (.bool ((t::l).any (wF sl tr))):=if_pos ⟨M,O,h3⟩;generalize (t::l).any (wF sl tr)=q at hv;cases t;simp[U,hC,hn,hv];exact aH.fu rfl rfl rfl (by simp)
end
def zid:Valid I Pg 131 (Yw (ziz Nd)):=by
 refine Valid.Yw (fo Tryz.func131 pO.2) λvs C D h hp=>?_
 obtain⟨t,R,r,ds,a,b,c,d,e,hF,rfl,hg,b4⟩:=zmC h;obtain⟨t,rfl,M,O,rfl⟩:=zpb hF;exact S9 hρ follows named Tryz.func131 pO.2 rfl hg rfl hp (λρ' fF=>⟨EL [(132,pR)],rfl,ag (ae (Yd fF) aG),PG fF rfl (ag (ae (Yd fF) aG)) rfl M O⟩) b4
def zib:Valid I Pg 205 (Yw (YA 131 zhi)):=by
 refine Valid.Yw (fo Tryz.func205 bJ.2) λvs C D h hp=>?_
 obtain⟨R,r,ds,a,b,c,d,e,hF,rfl,hg,b4⟩:=za5 h;obtain⟨⟨M,O,h3⟩,rfl⟩:=bF hF;have cQ:∀ ρ',J.Good ρ'->bH ρ' (EL [(131,Yw (ziz Nd))]):=λρ' fF=>ag (ae (zid fF) aG)
 exact S9 hρ follows named Tryz.func205 bJ.2 rfl hg rfl hp (λρ' fF=>⟨_,rfl,cQ ρ' fF,PD fF rfl (cQ ρ' fF) rfl M O h3⟩) b4
def zic:Valid I Pg 130 (Yw (YA 131 zhL)):=by
 refine Valid.Yw (fo Tryz.func130 bX.2) λvs C D h hp=>?_
 obtain⟨R,r,ds,a,b,c,d,e,hF,rfl,hg,b4⟩:=za5 h;obtain⟨⟨M,O,h3⟩,rfl⟩:=bF hF;have cQ:∀ ρ',J.Good ρ'->bH ρ' (EL [(205,Yw (YA 131 zhi))]):=λρ' fF=>ag (ae (zib fF) aG)
 exact S9 hρ follows named Tryz.func130 bX.2 rfl hg rfl hp (λρ' fF=>⟨_,rfl,cQ ρ' fF,PE fF rfl (cQ ρ' fF) rfl M O h3⟩) b4
def zlR:Valid I Pg 61 (eY (VL Lr)):=by
 refine Valid.sym (fo Tryz.func61 rf.2) λvs C D h=>?_
 obtain⟨args,n,Ds,s,s',l,l',r,ds,b,c,dd,e,hF,hz,BW,BJ,rfl,_,hr,hg,b4⟩:=J9 h;obtain⟨a,b,t,l2,rfl,b8,rfl,M,O,h3,hq⟩:=zdV hF;cases hq;have cQ:∀ ρ',J.Good ρ'->bH ρ' (EL [(130,Yw (YA 131 zhL))]):=λρ' fF=>ag (ae (zic fF) aG)
 cases s;simp only at b8;subst b8;exact sy hρ Tryz.func61 rf.2 rfl hg (λρ' fF=>⟨_,rfl,cQ ρ' fF,Ry fF rfl (cQ ρ' fF) rfl M O h3⟩) b4
end
abbrev CS:=MS×Z G
def DD (rec:G->Xp->CS->Y (Bool×CS)):Bool->Z G->Z Xp->CS->Y (Bool×CS)
 |is,_,[],s=>some (is,s)
 | is,gs,x::xs,s=>if is=true then (match gs with
   | []=>none
   |g::gs=>W (rec g x s) λq=>DD rec q.1 gs xs q.2)else some (false,s)
def xG{rec:G->Xp->CS->Y (Bool×CS)}{is:Bool}{gs:Z G}{s:CS}:DD rec is gs [] s=some (is,s):=by cases gs<;>rfl
def xH{rec:G->Xp->CS->Y (Bool×CS)}{gs:Z G}{xs:Z Xp}{s:CS}:DD rec false gs (x::xs) s=some (false,s):=by cases gs<;>rfl
def Vs{rec:G->Xp->CS->Y (Bool×CS)}{xs:Z Xp}{s:CS}:DD rec true [] (x::xs) s=none:=by rfl
def DC{rec:G->Xp->CS->Y (Bool×CS)}{gs:Z G}{xs:Z Xp}{s:CS}:DD rec true (g::gs) (x::xs) s=W (rec g x s) λq=>DD rec q.1 gs xs q.2:=by rfl
def Aw:Z (Z Nat)->Z (Z Nat)->Z G->Z Entry->Y (Z Entry)
 |_,[],_,c=>some c
 | done,v::vs,fs,c=>if v∈done then none else match fs with
   | []=>some c
   |f::fs=>Aw (done++[v]) vs fs (c++[⟨v,mono f⟩])
def yG (rec:Z Entry->G->Xp->CS->Y (Bool×CS)) (D:Z Decl) (args:Z G) (ctx:Z Entry) (g:G):Bool->Z Am->CS->Y (Bool×CS)
 |is,[],s=>some (is,s)
 | is,a::l,s=>if is=false\/(mV D a.dE args).1.length≠a.vars.length then some (false,s)else match Aw [] a.vars (mV D a.dE args).1 ctx with
   |none=>some (false,s)
   |some c=>W (rec c g a.body s) λq=>yG rec D args ctx g q.1 l q.2
def Mj (d f:Nat) (D:Z Decl) (rec:Z Entry->G->Xp->CS->Y (Bool×CS)) (ctx:Z Entry) (g:G) (e:Xp) (s:CS):Y (Bool×CS):=match e.kids with
 | []=>none
 | k0::_=>if (rD ctx k0.name).2=false\/(En D e.cf).2=false\/(rD ctx k0.name).1.count≠0 then some (false,s)else
   W (yE d f s.1 [enc g]) λq=>(match q.1 with
    | .bool true=>W (rJ d f D q.2 s.2 [enc (rD ctx k0.name).1.type,.int .i64 (En D e.cf).1]) λr=>(match r.1 with
      |.tuple [av,.bool is]=>W (bo.dec av:Y (Z G)) λargs=>yG rec D args ctx g is e.cf (r.2.1,r.2.2)
      |_=>none)
    |.bool false=>some (false,(q.2,s.2))
    |_=>none)
def Sp(D:Z Decl)(ctx:Z Entry)(e:Xp):Prop:=FZ D/\ctx.length<=900/\e.depth<=1000/\e.cf.length<=1000/\(∀ a∈e.cf,a.vars.length<=90)/\(dQ e).2.length<=1000
open Classical in
def iR(d f:Nat)(D:Z Decl):Nat->Z Entry->G->Xp->CS->Y (Bool×CS)
 | 0,_,_,_,_=>none
 | n + 1,ctx,g,e,s=>if Sp D ctx e then (
     if e.kind=4 then (match e.kids with
      | []=>none
      | k0::_=>W (iE d f s.1 [enc g]) λq=>(match q.1 with
        |.tuple [av,bv,.bool true]=>W (bo.dec av:Y G) λa=>W (bo.dec bv:Y G) λb=>iR d f D n (ctx++[⟨e.name,mono a⟩]) b k0 (q.2,s.2)
        |.tuple [_,_,.bool false]=>some (false,(q.2,s.2))
        |_=>none))
     else if e.kind=8 then Mj d f D (iR d f D n) ctx g e s
     else if (BK D ctx (dQ e).1).2=true then
      W (Dk d f D s.1 s.2 [enc (BK D ctx (dQ e).1).1,.int .i64 ((dQ e).2.length:Int),enc g]) λr=>(match r.1 with
       |.tuple [lv,.bool is]=>W (bo.dec lv:Y (Z G)) λl=>if is=true/\l.length≠(dQ e).2.length then none else DD (iR d f D n ctx) is l (dQ e).2 (r.2.1,r.2.2)
       |_=>none)
     else some (false,s))else none
def EK(d f n:Nat)(D:Z Decl)(s:MS)(l:Z G)(args:Z V):Y (V×MS×Z G):=match args with
 | [cv,gv,ev]=>W (bo.dec cv:Y (Z Entry)) λctx=>W (bo.dec gv:Y G) λg=>W (bo.dec ev:Y Xp) λe=>W (iR d f D n ctx g e (s,l)) λr=>some (.bool r.1,r.2.1,r.2.2)
 |_=>none
open Classical in
def NO(d f n:Nat)(D:Z Decl)(s:MS)(l:Z G)(args:Z V):Y (V×MS×Z G):=match args with
 | [cv,gv,ev]=>W (bo.dec cv:Y (Z Entry)) λctx=>W (bo.dec gv:Y G) λg=>W (bo.dec ev:Y Xp) λe=>if Sp D ctx e then W (Mj d f D (iR d f D n) ctx g e (s,l)) λr=>some (.bool r.1,r.2.1,r.2.2)else none
 |_=>none
theorem JW{ctx:Z Entry}{e:Xp}{r:Bool×CS}(h:iR d f D n ctx g e (s,l)=some r):EK d f n D s l [enc ctx,enc g,enc e]=some (.bool r.1,r.2.1,r.2.2):=by
 show W (bo.dec (enc ctx):Y (Z Entry)) (λctx=>W (bo.dec (enc g):Y G) λg=>W (bo.dec (enc e):Y Xp) λe=>W (iR d f D n ctx g e (s,l)) λr=>some (V.bool r.1,r.2.1,r.2.2))=_
 simp_all
def Ux{args:Z V}(h:EK d f n D s l args=some q):∃ (ctx:Z Entry) (g:G) (e:Xp) (r:Bool×CS),args=[enc ctx,enc g,enc e]/\iR d f D n ctx g e (s,l)=some r/\q=(.bool r.1,r.2.1,r.2.2):=by
 unfold EK at h;split at h
 . simp only[aA]at h;obtain⟨ctx,M,g,O,e,h3,r,h4,h⟩:=h;cases h;exact⟨ctx,g,e,r,by rw[bo.bq _ _ M,bo.bq _ _ O,bo.bq _ _ h3],h4,rfl⟩
 . cases h
theorem ztA{ctx:Z Entry}{e:Xp}{r:Bool×CS}(hp:Sp D ctx e)(h:Mj d f D (iR d f D n) ctx g e (s,l)=some r):NO d f n D s l [enc ctx,enc g,enc e]=some (.bool r.1,r.2.1,r.2.2):=by
 unfold NO
 simp_all
def zpo{args:Z V}(h:NO d f n D s l args=some q):∃ (ctx:Z Entry) (g:G) (e:Xp) (r:Bool×CS),args=[enc ctx,enc g,enc e]/\Sp D ctx e/\Mj d f D (iR d f D n) ctx g e (s,l)=some r/\q=(.bool r.1,r.2.1,r.2.2):=by
 unfold NO at h;split at h
 . simp only[aA]at h;obtain⟨ctx,M,g,O,e,h3,h⟩:=h;split at h
   . rename_i hp;simp only[aA]at h;obtain⟨r,h4,h⟩:=h;cases h;exact⟨ctx,g,e,r,by rw[bo.bq _ _ M,bo.bq _ _ O,bo.bq _ _ h3],hp,h4,rfl⟩
   . cases h
 . cases h
def vL(s s':CS):Prop:=(∀ a b,s.1.z=some (a,b)->∃ a2 b2,s'.1.z=some (a2,b2))/\(s.2≠[]->s'.2≠[])
theorem vL.refl(s:CS):vL s s:=⟨λa b h=>⟨a,b,h⟩,id⟩
def vL.trans{s s' s2:CS}(h:vL s s')(h':vL s' s2):vL s s2:=⟨λa b e=>by obtain⟨a2,b2,e2⟩:=h.1 a b e;exact h'.1 _ _ e2,λe=>h'.2 (h.2 e)⟩
def GR {rec:G->Xp->CS->Y (Bool×CS)} (hr:∀ g x s q,rec g x s=some q->vL s q.2):∀ {xs:Z Xp} {is:Bool} {gs:Z G} {s:CS} {q:Bool×CS},DD rec is gs xs s=some q->vL s q.2
 | [],is,gs,s,q,h=>by rw[xG]at h;cases h;exact .refl _
 | x :: xs,is,gs,s,q,h=>by
   cases is with
   |false=>rw[xH]at h;cases h;exact .refl _
   | true =>
     cases gs with
     |nil=>rw[Vs]at h;cases h
     | cons g gs =>
       rw[DC]at h;simp only[aA]at h;obtain⟨p,hp,h⟩:=h;exact(hr _ _ _ _ hp).trans (GR hr h)
def GQ {rec:Z Entry->G->Xp->CS->Y (Bool×CS)} (hr:∀ c g x s q,rec c g x s=some q->vL s q.2)  {args:Z G} {ctx:Z Entry} :∀ {l:Z Am} {is:Bool} {s:CS} {q:Bool×CS},yG rec D args ctx g is l s=some q->vL s q.2
 | [],is,s,q,h=>by cases h;exact .refl _
 | a :: l,is,s,q,h=>by
   rw[yG]at h;split at h
   . cases h;exact .refl _
   . split at h
     . cases h;exact .refl _
     . simp only[aA]at h;obtain⟨p,hp,h⟩:=h;exact(hr _ _ _ _ _ hp).trans (GQ hr h)
def zfE{args:Z V}{q:V×MS}(h:yE d f s args=some q):vL (s,l) (q.2,l):=by
 obtain⟨e,a,b,sl,tr,rfl⟩:=FO h;exact⟨λ_ _ _=>⟨_,_,rfl⟩,id⟩
def UI{args:Z V}{q:V×MS}(h:iE d f s args=some q):vL (s,l) (q.2,l):=by
 obtain⟨z,sl,tr⟩:=s
 cases z with
 |none=>obtain⟨x,y,r,rfl⟩:=yu h;exact .refl _
 | some z =>
   cases z;obtain⟨x,y,r,_,a2,b2,e2⟩:=Ai h;exact⟨λ_ _ _=>⟨_,_,e2⟩,id⟩
def K7{args:Z V}(h:rJ d f D s l args=some q):vL (s,l) (q.2.1,q.2.2)/\(∃ a2 b2,q.2.1.z=some (a2,b2))/\q.2.2≠[]:=by
 obtain⟨t,i,hi,a0,b0,a2,b2,cR,cw,e,_,_,_,_,_,_,_,_,rfl⟩:=yI h;exact⟨⟨λ_ _ _=>⟨_,_,rfl⟩,λ_=>by simp⟩,⟨_,_,rfl⟩,by simp⟩
def LV{args:Z V}(h:Dk d f D s l args=some q):vL (s,l) (q.2.1,q.2.2)/\q.2.2≠[]/\∀ v,q.1=.tuple [v,.bool true]->∃ a2 b2,q.2.1.z=some (a2,b2):=by
 obtain⟨c,k,g,r0,s1,s2,R,acc,e,rfl,hk,hl,M,O,h3,rfl⟩:=JY h;refine⟨⟨λa b hz=>?_,λ_=>by simp⟩,by simp,λv hv=>?_⟩
 . obtain⟨a1,b1,e1⟩:=(TN M).1 _ _ hz;obtain⟨a2,b2,e2⟩:=(Gu O).1 _ _ e1;exact Xl h3 e2
 . obtain⟨R,s3⟩:=R
   cases R with
   | none =>
     obtain⟨_,rfl,_⟩:=FE h3;simp at hv
   | some p =>
     cases p;obtain⟨_,e1,a1,b1,cY,mR,_,hh⟩:=Dm h3;rcases hh with⟨_,_,rfl⟩|⟨_,e2,a2,b2,cR,cw,_,⟨_,_,rfl⟩|⟨_,a3,b3,F4,Ff,_,rfl⟩⟩
     . exact⟨_,_,rfl⟩
     . exact⟨_,_,rfl⟩
     . exact⟨_,_,rfl⟩
def zkU   {rec:Z Entry->G->Xp->CS->Y (Bool×CS)} (hr:∀ c g x s q,rec c g x s=some q->vL s q.2) {ctx:Z Entry}  {e:Xp} {s:CS} {q:Bool×CS} (h:Mj d f D rec ctx g e s=some q):vL s q.2:=by
 unfold Mj at h;split at h
 . cases h
 . split at h
   . cases h;exact .refl _
   . simp only[aA]at h;obtain⟨p,hp,h⟩:=h;have hg:=zfE (l:=s.2) hp;split at h
     . simp only[aA]at h;obtain⟨r,sg,h⟩:=h;split at h
       . simp only[aA]at h;obtain⟨args,_,h⟩:=h;exact(hg.trans (K7 sg).1).trans (GQ hr h)
       . cases h
     . cases h;exact hg
     . cases h
def mO  :∀ {n:Nat} {ctx:Z Entry} {g:G} {e:Xp} {s:CS} {q:Bool×CS},iR d f D n ctx g e s=some q->vL s q.2
 | 0,ctx,g,e,s,q,h=>by cases h
 | n + 1,ctx,g,e,s,q,h=>by
   rw[iR]at h;split at h
   . split at h
     . split at h
       . cases h
       . simp only[aA]at h;obtain⟨p,hp,h⟩:=h;have hg:=UI (l:=s.2) hp;split at h
         . simp only[aA]at h;obtain⟨a,_,b,_,h⟩:=h;exact hg.trans (mO h)
         . cases h;exact hg
         . cases h
     . split at h
       . exact zkU (λc g x s q h=>mO h) h
       . split at h
         . simp only[aA]at h;obtain⟨r,sg,h⟩:=h;split at h
           . simp only[aA]at h;obtain⟨l,_,h⟩:=h;split at h
             . cases h
             . exact(LV sg).1.trans (GR (λg x s q h=>mO h) h)
           . cases h
         . cases h;exact .refl _
   . cases h
def zcb{s2:MS}(hz:s.z=none->s.sl=[]/\s.tr=[]/\l=[])(hg:vL (s,l) (s2,l2)):(s=⟨none,[],[]⟩/\l=[])\/∃ a b sl tr a2 b2 cR cw,s=⟨some (a,b),sl,tr⟩/\s2=⟨some (a2,b2),cR,cw⟩:=by
 rcases AR hz with h|⟨a,b,sl,tr,rfl⟩
 . exact .inl h
 . obtain⟨a2,b2,e2⟩:=hg.1 _ _ rfl;cases s2;cases e2;exact .inr ⟨_,_,_,_,_,_,_,_,rfl,rfl⟩
def zcf{s1 s2:MS}{args:Z V}(hz:s.z=none->s.sl=[]/\s.tr=[]/\l=[])(h:iE d f s args=some (v,s1))(hg:vL (s1,l) (s2,l2)) :
 (s=⟨none,[],[]⟩/\l=[]/\s1=⟨none,[],[]⟩)\/∃ a b sl tr a1 b1 cY mR a2 b2 cR cw,s=⟨some (a,b),sl,tr⟩/\s1=⟨some (a1,b1),cY,mR⟩/\s2=⟨some (a2,b2),cR,cw⟩:=by
 rcases AR hz with⟨rfl,rfl⟩|⟨a,b,sl,tr,rfl⟩
 . obtain⟨_,_,_,e1⟩:=yu h;cases e1;exact .inl ⟨rfl,rfl,rfl⟩
 . obtain⟨_,_,_,_,a1,b1,e1⟩:=Ai h;cases s1;cases e1;obtain⟨a2,b2,e2⟩:=hg.1 _ _ rfl;cases s2;cases e2;exact .inr ⟨_,_,_,_,_,_,_,_,_,_,_,_,rfl,rfl,rfl⟩
section
variable {I:Nat->Value}(hρ:J.Good I)
include hρ
section
variable {E:Env}(U:E.P=Pg)(aq:bH I E)
include U aq
def Rk(I:Nat->Value)(E:Env)(n:MN)(D:Z Decl)(ctx:Z Entry)(g:G)(e:Xp)(s:MS)(l:Z G)(r:Bool)(s2:MS)(l2:Z G):Prop :=
 Wp I E (Kr s.z l) 99 kY.1 ((((PT.leaf.set 0 (.ptr 0 0 0)).set 1 (enc ctx)).set 2 (enc g)).set 3 (enc e)) { H:=dW (uC n D s l),n:=Kr s.z l,log:=[] } (J.Leaves E.P Tryz.f60 (aH (Kr s.z l) (.bool r) (uC n D s2 l2)))
variable (hF:E.dE 125=eY (C9 0 (iE d f)))(hM:E.dE 127=ED)(hP:E.dE 126=ER)(hA:E.dE 128=eY (VL (NO d f m)))(hSp:E.dE 118=dH (cO EC))(hNf:E.dE 129=LD)(hHd:E.dE 81=eY (VL (Dk d f)))(hH:E.dE 60=eY (VL (EK d f m)))
 {n:MN} (BJ:n.n<=900)  {ctx:Z Entry}  {e:Xp} {s1 s2:MS} {l1:Z G}  (hz:s.z=none->s.sl=[]/\s.tr=[]/\l=[])
include hF hM hP hA hSp hNf hHd hH BJ hz
theorem zeH{x:G}(hk:e.kind=4)(M:iE d f s [enc g]=some (.tuple [enc x,enc y,.bool false],s1)):Rk I E n D ctx g e s l false s1 l:=by
 obtain⟨n,hn⟩:=n;simp only at BJ;have lb:n+1<=1000:=by omega
 cases g;cases x;cases y;obtain⟨ek,ep,en,em,cM,QG,⟨mw,mj,my,xL,mu⟩⟩:=e;simp only[Xp.fw]at hk;subst hk;unfold Rk;rcases zcf hz M (.refl _)with⟨rfl,rfl,rfl⟩|⟨a,b,sl,tr,a1,b1,cY,mR,a2,b2,cR,cw,rfl,rfl,_⟩
 any_goals rcases l with _|⟨⟨tk,tn,ti,th,tl⟩,l⟩
 all_goals
  simp at M;simp[U,bL,hF,hn,lb,BJ,M,aJ]
  first|(refine aH.fu rfl rfl rfl ?_;simp;done)|exact aH.auto
theorem zjR{x:G}(hk:e.kind=4)(eb:ctx.length<=900)(oT:e.kids=k0::ks)
 (M:iE d f s [enc g]=some (.tuple [enc x,enc y,.bool true],s1)) (O:EK d f m D s1 l [enc (ctx++[⟨e.name,mono x⟩]),enc y,enc k0]=some (.bool r,s2,l2)) (hg:vL (s1,l) (s2,l2)):Rk I E n D ctx g e s l r s2 l2:=by
 obtain⟨n,hn⟩:=n;simp only at BJ;have lb:n+1<=1000:=by omega
 have zKc:ctx.length<=1000:=by omega
 cases g;cases x;cases y;obtain⟨ek,ep,en,em,cM,QG,⟨mw,mj,my,xL,mu⟩⟩:=e;simp only[Xp.fw,Xp.jC,Xp.yo]at hk oT O;subst hk oT;obtain⟨kk,kp,kn,km,znO,znP,⟨zJk,zJi,zJl,zJm,zJj⟩⟩:=k0;unfold Rk;rcases zcf hz M hg with⟨rfl,rfl,rfl⟩|⟨a,b,sl,tr,a1,b1,cY,mR,a2,b2,cR,cw,rfl,rfl,rfl⟩
 any_goals obtain⟨_|⟨a2,b2⟩,cR,cw⟩:=s2
 any_goals rcases l with _|⟨⟨tk,tn,ti,th,tl⟩,l⟩
 all_goals
  rcases l2 with _|⟨⟨zNe,zNc,zNf,zNg,zNd⟩,l2⟩
  all_goals try exact absurd rfl (hg.2 (List.cons_ne_nil _ _))
 all_goals
  simp[mono,df,bL]at M O;simp[U,bL,mono,df,hF,hM,ED,hP,ER,zKc,hH,hn,lb,BJ,M,O,aJ]
  first|(refine aH.fu rfl rfl rfl ?_;simp;done)|exact aH.auto
theorem zjS(hk:e.kind=8)(O:NO d f m D s l [enc ctx,enc g,enc e]=some (.bool r,s2,l2))(hg:vL (s,l) (s2,l2)):Rk I E n D ctx g e s l r s2 l2:=by
 obtain⟨n,hn⟩:=n;simp only at BJ;cases g;obtain⟨ek,ep,en,em,cM,QG,⟨mw,mj,my,xL,mu⟩⟩:=e;simp only[Xp.fw]at hk;subst hk;unfold Rk;rcases zcb hz hg with⟨rfl,rfl⟩|⟨a,b,sl,tr,a2,b2,cR,cw,rfl,rfl⟩
 any_goals obtain⟨_|⟨a2,b2⟩,cR,cw⟩:=s2
 any_goals rcases l with _|⟨⟨tk,tn,ti,th,tl⟩,l⟩
 all_goals
  rcases l2 with _|⟨⟨zNe,zNc,zNf,zNg,zNd⟩,l2⟩
  all_goals try exact absurd rfl (hg.2 (List.cons_ne_nil _ _))
 all_goals
  simp[bL]at O;simp[U,bL,hA,hn,BJ,O,aJ]
  first|(refine aH.fu rfl rfl rfl ?_;simp;done)|exact aH.auto
section
variable {args:Z Xp}{acc:Z G}(xj:e.kind≠4)(VK:e.kind≠8)(h0:EC e=some (hd,args))
include xj VK h0
theorem Zl(M:LF D ctx hd=some (sc,false)):Rk I E n D ctx g e s l false s l:=by
 obtain⟨n,hn⟩:=n;simp only at BJ;cases g;obtain⟨ek,ep,en,em,cM,QG,⟨mw,mj,my,xL,mu⟩⟩:=e;obtain⟨hdk,hdp,hdn,UE,zol,zom,⟨mA,htn,hti,hth,An⟩⟩:=hd;obtain⟨scc,⟨sk,sn,si,sh,sl⟩⟩:=sc;simp only[Xp.fw]at xj VK;unfold Rk;rcases AR hz with⟨rfl,rfl⟩|⟨a,b,sl,tr,rfl⟩
 any_goals rcases l with _|⟨⟨tk,tn,ti,th,tl⟩,l⟩
 all_goals
  simp[U,bL,xj,VK,hSp,h0,hNf,LD,M,hn,BJ,aJ];exact aH.fu rfl rfl rfl (by simp)
theorem zb1(sX:args.length<=1000)(M:LF D ctx hd=some (sc,true))(O:Dk d f D s l [enc sc,.int .i64 (args.length:Int),enc g]=some (.tuple [.sl (acc.map au) false,.bool false],s2,t2::l2))(hg:vL (s,l) (s2,t2::l2)):Rk I E n D ctx g e s l false s2 (t2::l2):=by
 obtain⟨n,hn⟩:=n;simp only at BJ;cases g;cases t2;obtain⟨ek,ep,en,em,cM,QG,⟨mw,mj,my,xL,mu⟩⟩:=e;obtain⟨hdk,hdp,hdn,UE,zol,zom,⟨mA,htn,hti,hth,An⟩⟩:=hd;obtain⟨scc,⟨sk,sn,si,sh,zF0⟩⟩:=sc;simp only[Xp.fw]at xj VK;unfold Rk;rcases zcb hz hg with⟨rfl,rfl⟩|⟨a,b,sl,tr,a2,b2,cR,cw,rfl,rfl⟩
 any_goals obtain⟨_|⟨a2,b2⟩,cR,cw⟩:=s2
 any_goals rcases l with _|⟨⟨tk,tn,ti,th,tl⟩,l⟩
 all_goals
  simp at O;simp[U,bL,xj,VK,hSp,h0,hNf,LD,M,hHd,O,hn,BJ,aJ];refine ru (lp (n:=0) hρ U aq λK _=>?_);simp[jI,U]
  first|(refine aH.fu rfl rfl rfl ?_;simp;done)|exact aH.auto
end
end
section
variable {E:Env}(U:E.P=Pg)(aq:bH I E)
include U aq
def zeG  (hH:E.dE 60=eY (VL (EK d f m)))  (hn:n<=1000) (BJ:n<=900)  {ctx:Z Entry}    (me:kk=1\/kk=3\/kk=4) (hGX:cL.length=X.length) (hX:X.length<=1000)
    {t0:G} {l0:Z G}  (hR:DD (iR d f D m ctx) true cL X (⟨some (a0,b0),da,eJ⟩,t0::l0)=some (r,(⟨some (a2,b2),cR,cw⟩,t2::l2)))
 {sz:Nat} (b8:sz=99)   
 (hT:aw kk T C (dW [(0,.ptr 0 0 0),(1,.sl (ctx.map df) false),(13,.sl (X.map dL) false),(15,.bool true),(16,.sl (cL.map au) false),(17,.int .i64 ((0:Nat):Int))]) { H:=dW [(0,.arr (n+4) 0 [.sl (D.map aP) false::.own 1 a0 0 da.length none::.own 2 b0 0 eJ.length none::.own 3 l0.length 0 (l0.length+1) none::jS 4 n] true false false),(1,.arr 8 a0 (da.map dG) false false true),(2,.arr 10 b0 (eJ.map bW) false false true),(3,.arr 5 l0.length (au t0::l0.map au) false false true)],n:=4,log:=[] })
 (hQ:Q (.exit 1) (dW [(15,.bool r)]) { H:=dW [(0,.arr (n+4) 0 [.sl (D.map aP) false::.own 1 a2 0 cR.length none::.own 2 b2 0 cw.length none::.own 3 l2.length 0 (l2.length+1) none::jS 4 n] true false false),(1,.arr 8 a2 (cR.map dG) false false true),(2,.arr 10 b2 (cw.map bW) false false true),(3,.arr 5 l2.length (au t2::l2.map au) false false true)],n:=4,log:=[] }) :
 Ls I E kk sz (.loop jI) T C Q:=by
 subst b8;rcases me with rfl|rfl|rfl
 all_goals
  refine vC hρ U aq X.length (nn:=4) (λi (st:Bool×Nat×Nat×Z Slot×Z Change×G×Z G)=>[(0,.ptr 0 0 0),(1,.sl (ctx.map df) false),(13,.sl (X.map dL) false),(15,.bool st.1),(16,.sl (cL.map au) false),(17,.int .i64 (i:Int))])
   (λi st=>[(0,.arr (n+4) 0 [.sl (D.map aP) false::.own 1 st.2.1 0 st.2.2.2.1.length none::.own 2 st.2.2.1 0 st.2.2.2.2.1.length none::.own 3 st.2.2.2.2.2.2.length 0 (st.2.2.2.2.2.2.length+1) none::jS 4 n] true false false),(1,.arr 8 st.2.1 (st.2.2.2.1.map dG) false false true),(2,.arr 10 st.2.2.1 (st.2.2.2.2.1.map bW) false false true),(3,.arr 5 st.2.2.2.2.2.2.length (au st.2.2.2.2.2.1::st.2.2.2.2.2.2.map au) false false true)])
   (λi st=>DD (iR d f D m ctx) st.1 (cL.drop i) (X.drop i) (⟨some (st.2.1,st.2.2.1),st.2.2.2.1,st.2.2.2.2.1⟩,st.2.2.2.2.2.1::st.2.2.2.2.2.2)=some (r,(⟨some (a2,b2),cR,cw⟩,t2::l2))) (true,a0,b0,da,eJ,t0,l0) (by simpa using hT) hR ?_ ?_
  . rintro ⟨is,a,b,sl,tr,t,l⟩ M K;simp only[bz]at M;rw[xG]at M;cases M;cases t2
    cases r <;>
    . simp[jI,U];exact bO.mk (aw.auto) hQ
  . rintro i ⟨is,a,b,sl,tr,t,l⟩ hi M K hK;simp only at M;have cj:(i:Int)<X.length:=by omega
    have pP:i<cL.length:=by omega
    have cy:=bI (i:=i);have m1:i*5 / 5=i:=by omega
    have m3:i*11 / 11=i:=by omega
    rw[aK hi,aK pP]at M
    cases is with
    | false =>
      rw[xH]at M;cases M;cases t2;simp[jI,U,cj];exact bO.mk (aw.auto) hQ
    | true =>
      rw[DC]at M;simp only[aA]at M;obtain⟨⟨zJp,⟨z3,F4,Ff⟩,l3⟩,O,h3⟩:=M;have hg:=mO O;obtain⟨a3,b3,e3⟩:=hg.1 _ _ rfl;have e4:l3≠[]:=hg.2 (by simp);obtain⟨t3,l4,rfl⟩:∃ t4 l4,l3=t4::l4:=dh e4;simp only at e3;subst e3;have h4:=JW O;have bc:=hK (zJp,a3,b3,F4,Ff,t3,l4) h3;clear O h3 hg;obtain⟨gx,hgx⟩:∃ gx,cL[i]=gx:=⟨_,rfl⟩;obtain⟨xx,zL6⟩:∃ xx,X[i]=xx:=⟨_,rfl⟩;rw[hgx,zL6]at h4;cases gx;obtain⟨xk,xp,xn,xm,ztW,ztX,⟨zLe,zLc,zLf,zLg,zLd⟩⟩:=xx;cases t;cases t3;simp[bL]at h4;simp[jI,U,hi,cj,pP,cy,m1,m3,hgx,zL6,bL,hH,hn,BJ,h4,aJ,-Int.natCast_add];exact bc _ _ (aw.auto)
def zeI(hF:E.dE 125=eY (C9 0 (iE d f)))(hM:E.dE 127=ED)(hP:E.dE 126=ER)(hA:E.dE 128=eY (VL (NO d f m)))(hSp:E.dE 118=dH (cO EC))(hNf:E.dE 129=LD)(hHd:E.dE 81=eY (VL (Dk d f)))(hH:E.dE 60=eY (VL (EK d f m)))
 {n:MN} (BJ:n.n<=900)  {ctx:Z Entry}  {e:Xp}  {l1:Z G}  (hz:s.z=none->s.sl=[]/\s.tr=[]/\l=[])    {t1:G}  {args:Z Xp}  {acc:Z G} (xj:e.kind≠4) (VK:e.kind≠8) (h0:EC e=some (hd,args)) (sX:args.length<=1000) (hac:acc.length=args.length) (M:LF D ctx hd=some (sc,true)) (O:Dk d f D s l [enc sc,.int .i64 (args.length:Int),enc g]=some (.tuple [.sl (acc.map au) false,.bool true],⟨some (a1,b1),cY,mR⟩,t1::l1))
 (h3:DD (iR d f D m ctx) true acc args (⟨some (a1,b1),cY,mR⟩,t1::l1)=some (r,(⟨some (a2,b2),cR,cw⟩,t2::l2))):Rk I E n D ctx g e s l r ⟨some (a2,b2),cR,cw⟩ (t2::l2):=by
 obtain⟨n,hn⟩:=n;simp only at BJ;have rB:=λkk me T C Q=>zeG hρ U aq hH hn BJ (kk:=kk) me hac sX h3 (sz:=99) rfl (T:=T) (C:=C) (Q:=Q)
 clear h3;cases g;cases t1;cases t2;obtain⟨ek,ep,en,em,cM,QG,⟨mw,mj,my,xL,mu⟩⟩:=e;obtain⟨hdk,hdp,hdn,UE,zol,zom,⟨mA,htn,hti,hth,An⟩⟩:=hd;obtain⟨scc,⟨sk,sn,si,sh,zF0⟩⟩:=sc;simp only[Xp.fw]at xj VK;unfold Rk;rcases AR hz with⟨rfl,rfl⟩|⟨a,b,sl,tr,rfl⟩
 any_goals rcases l with _|⟨⟨tk,tn,ti,th,tl⟩,l⟩
 all_goals
  simp at O;simp[U,bL,xj,VK,hSp,h0,hNf,LD,M,hHd,O,hn,BJ,aJ];refine rB _ (by decide) _ _ _ (aw.auto) ?_;simp[U];exact aH.fu rfl rfl rfl (by simp)
end
end
end Go.Proofs.YtfloillkpbhhhaaGreat
