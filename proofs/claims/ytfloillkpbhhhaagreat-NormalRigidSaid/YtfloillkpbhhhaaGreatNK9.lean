import Derived.Test.YtfloillkpbhhhaaGreatNK8
import Derived.Test.YtfloillkpbhhhaaGreatNK7
import Derived.Test.YtfloillkpbhhhaaGreatJK11
import Derived.Test.YtfloillkpbhhhaaGreatJK12
import Derived.Test.YtfloillkpbhhhaaGreatJK10
set_option linter.all false
noncomputable section
namespace Go.Proofs.YtfloillkpbhhhaaGreat
open Go.J
open Go.J.bo (enc)
set_option maxRecDepth 100000
set_option maxHeartbeats 4000000
variable {F:(Z Nat)->Y Bool}{b:Bool}{Q:Ex->PT V->HS->Prop}{g r0 t:G}{C:HS}{ek h:Int}{s s':MS}{a0 b0 d f i k:Nat}{T:PT V}{c:Scheme}{v:V}{q:V×MS}{e:Xp}{eo:Z Am}{mR tr eJ cw:Z Change}{D:Z Decl}{kA l:Z G}{en n:Z Nat}{sl da:Z Slot}{vs:Z V}{cM:Z Xp}
def zty(l:Z G):(l.any λt=>!t.valid)=!G.qw l:=by
 induction l with
 |nil=>rfl
 |cons t l ih=>simp only[qo,ih,G.qw,Bool.not_and]
def zdW(h:G.rV l=true)(ht:t∈l):t.short=true:=G.zdX.1 h t ht
def og(d:Nat):J.Spec:=dH (cO λt:G=>if t.size<=d/\t.short=true then some t.valid else none)
def zsn(d:Nat)(t:G):Y Bool:=if t.size<=d/\t.short=true then some (!t.valid)else none
def Xe(g d:Nat)(vs:Z V):Y V:=match vs with
 | [a,.func g' []]=>gd (Nat.beq g' g) (W (bo.dec a:Y (Z G)) λl=>if l.length<=100000/\G.bj l<=d/\G.rV l=true then some (enc (gU (λt:G=>!t.valid) l 0))else none)
 |_=>none
def Ns(g d:Nat)(vs:Z V):Y V:=match vs with
 | [a,.func g' []]=>gd (Nat.beq g' g) (W (bo.dec a:Y (Z G)) λl=>if l.length<=100000/\G.bj l<=d/\G.rV l=true then some (enc (!G.qw l))else none)
 |_=>none
def zjM{g:Nat}(h:Xe g d vs=some v):∃ l:Z G,vs=[enc l,.func g []]/\l.length<=100000/\G.bj l<=d/\G.rV l=true/\v=enc (gU (λt:G=>!t.valid) l 0):=by
 unfold Xe at h;split at h
 . simp only[bE,aA,J.beq_true]at h;obtain⟨rfl,l,hl,h⟩:=h;obtain⟨⟨M,O,h3⟩,rfl⟩:=bF h;exact⟨l,by rw[bo.bq _ _ hl],M,O,h3,rfl⟩
 . cases h
def zjN{g:Nat}(h:Ns g d vs=some v):∃ l:Z G,vs=[enc l,.func g []]/\l.length<=100000/\G.bj l<=d/\G.rV l=true/\v=enc (!G.qw l):=by
 unfold Ns at h;split at h
 . simp only[bE,aA,J.beq_true]at h;obtain⟨rfl,l,hl,h⟩:=h;obtain⟨⟨M,O,h3⟩,rfl⟩:=bF h;exact⟨l,by rw[bo.bq _ _ hl],M,O,h3,rfl⟩
 . cases h
section
variable {I:Nat->Value}(hρ:J.Good I)
include hρ
section
variable {E:Env}(U:E.P=Pg)(aq:bH I E)
include U aq
def Mw(hc:E.dE 102=og d)(M:t.size<=d)(O:t.short=true)(C:HS):aT I Pg 186 [enc t] C (enc (!t.valid)) C:=by
 refine fn hρ U aq Tryz.func186 Hl.2 rfl (by simp) ?_ C;cases hv:t.valid<;>simp[U,hc,og,M,O,hv]
def Ze(hc:E.dE 186=dH (cO (zsn d)))(hl:l.length<=100000)(hd:G.bj l<=d)(D2:G.rV l=true)(C:HS) :
 aT I Pg 205 [enc l,.func 186 []] C (enc (gU (λt:G=>!t.valid) l 0)) C:=by
 refine fn hρ U aq Tryz.func205 bJ.2 rfl (by simp) ?_ C;generalize hr:gU (λt:G=>!t.valid) l 0=r;simp[U]
 refine vC hρ U aq l.length (nn:=0) (λi (_:Unit)=>[(0,.sl (l.map au) false),(1,.func 186 []),(7,.int .i64 (l.length:Int)),(8,.int .i64 (i:Int))]) (λi _=>[]) (λi _=>gU (λt:G=>!t.valid) (l.drop i) (i:Int)=r) ()
  (aw.auto) (by simpa using hr) ?_ ?_
 . intro _ h K;rw[bz,gU]at h;simp[bf,U];refine bO.mk (aw.auto (TL:=[]) (HL:=[]) (n:=0)) ?_;simp[U,<- h]
 . intro i _ hi h K hK;have cj:(i:Int)<l.length:=by omega
   have cy:=bI (i:=i);have ew:=az hi;have zN:(i*5) / 5=i:=by omega
   have Ms:(i*5) % 5=0:=by omega
   have hF:zsn d l[i]=some (!l[i].valid):=if_pos ⟨by have:=G.Fp ew;omega,zdW D2 ew⟩;rw[aK hi,gU]at h
   cases hv:l[i].valid with
   | false =>
     simp only[hv,Bool.not_false,↓reduceIte]at h hF;simp[bf,U,hi,cj,zN,Ms,hc,hF];refine bO.mk (aw.auto (TL:=[(4,.int .i64 (i:Int))]) (HL:=[]) (n:=0)) ?_;simp[U,<- h]
   | true =>
     simp only[hv,Bool.not_true,lH,↓reduceIte]at h hF;have bc:=hK () h;simp[bf,U,hi,cj,zN,Ms,hc,hF,cy,-Int.natCast_add];exact bc _ _ (aw.auto)
def Ru(hc:E.dE 205=dH (Xe 186 d))(hl:l.length<=100000)(hd:G.bj l<=d)(D2:G.rV l=true)(C:HS) :
 aT I Pg 130 [enc l,.func 186 []] C (enc (!G.qw l)) C:=by
 refine fn hρ U aq Tryz.func130 bX.2 rfl (by simp) ?_ C;have qS:=Ah (λt:G=>!t.valid) l 0 (fA _);rw[zty]at qS;generalize hx:gU (λt:G=>!t.valid) l 0=x at qS;rw[<- qS];simp[U,hc,Xe,hl,hd,D2,hx]
theorem Ra  (hN:E.dE 184=zbH) (hK:E.dE 185=zhx) (hC:E.dE 130=dH (Ns 186 d))
  (ht:t.size<=d+1) (fX:t.args.length<=100000) (D2:t.short=true) (C:HS):aT I Pg 102 [enc t] C (enc t.valid) C:=by
 refine fn hρ U aq Tryz.func102 EY.2 rfl (by simp) ?_ C;have vy:=G.size_eq t;obtain⟨u4,zn1⟩:=G.ziF.1 D2;obtain⟨k,nm,i,h,l⟩:=t;simp only[G.jC,G.fC]at u4 fX zn1 vy;have hd:G.bj l<=d:=by omega
 clear vy ht D2;have d1:(bo.dec (V.int .u8 97):Y tW)=some ⟨97⟩:=rfl;have d2:(bo.dec (V.int .u8 122):Y tW)=some ⟨122⟩:=rfl;have FG:=zbJ nm
 have qs:((l.length:Int)=0)↔l=[]:=by
  simp_all
 simp only[zbH,zhx,show (2:Nat)^63=9223372036854775808 from rfl]at hN hK u4;by_cases M:k=1
 . subst M;by_cases hn:nm=[]<;>by_cases sr:l=[]<;>by_cases ss:0<=i<;>by_cases pP:i<=1000000<;>by_cases hh:h=0<;>simp[U,G.valid,qs,hn,sr,ss,pP,hh]
 by_cases O:k=2
 . subst O;by_cases hn:nm=[]<;>by_cases sr:l=[]<;>by_cases ss:0<=i<;>by_cases pP:i<=1000000<;>by_cases hh:h=0<;>simp[U,G.valid,qs,hn,sr,ss,pP,hh]
 by_cases h3:k=3
 . subst h3;by_cases hn:nm=[]<;>by_cases sr:l=[]<;>by_cases ss:0<=i<;>by_cases pP:i<=1000000<;>by_cases hh:-1<=h<;>by_cases zAb:h<=1000000<;>simp[U,G.valid,qs,hn,sr,ss,pP,hh,zAb]
 by_cases h5:k=5
 . subst h5
   have hv:G.valid (.mk 5 nm i h l)=(decide (l=[])&&decide (i=0)&&decide (h=0)&&j6 nm):=by
    have sr:decide (l.length=0)=decide (l=[]):=by rw[dF];simp
    grind [G.valid]
   rw[hv];by_cases W6:i=0
   . subst W6;by_cases hn:nm=[]
     . subst hn;have zG8:j6 []=false:=rfl;rw[zG8]at FG;by_cases sr:l=[]<;>by_cases hh:h=0<;>simp[U,qs,sr,hh,hN,u4,d1,d2,FG,zG8]
     . cases zG8:j6 nm<;>rw[zG8]at FG<;>by_cases sr:l=[]<;>by_cases hh:h=0<;>simp[U,qs,hn,sr,hh,hN,u4,d1,d2,FG]
   . by_cases hn:nm=[]<;>by_cases sr:l=[]<;>by_cases ss:0<=i<;>by_cases pP:i<=1000000<;>simp[U,qs,hn,sr,ss,pP,W6]
 by_cases h4:k=4
 . subst h4
   have hv:G.valid (.mk 4 nm i h l)=(decide (i=0)&&decide (h=0)&&ZO nm (l.length:Int)&&G.qw l):=by
    have q2:((l.length:Int)=2)↔l.length=2:=by omega
    have q0:((l.length:Int)=0)↔l.length=0:=by omega
    have q4:((l.length:Int)<=4)↔l.length<=4:=by omega
    simp only[G.valid,ZO,show ¬ ((4:Int)=1\/(4:Int)=2) by decide,show ¬ (4:Int)=3 by decide,show ¬ (4:Int)=5 by decide,↓reduceIte,q2,q0,q4]
    grind
   rw[hv];clear FG d1 d2;by_cases W6:i=0
   . subst W6;by_cases hh:h=0
     . subst hh;generalize cQ:ZO nm (l.length:Int)=c;generalize lP:G.qw l=v;by_cases sr:l=[]
       . subst sr;have hcn':ZO nm 0=c:=cQ;have ov:v=true:=lP.symm;subst ov;have hd0:G.bj []<=d:=hd;by_cases hn:nm=[]
         . subst hn;cases c<;>simp[U,hK,u4,hcn',hC,Ns,hd0,zn1,lP]
         . cases c<;>simp[U,hn,hK,u4,hcn',hC,Ns,hd0,zn1,lP]
       . by_cases hn:nm=[]
         . subst hn;cases c<;>cases v<;>simp[U,qs,sr,hK,u4,cQ,hC,Ns,fX,hd,zn1,lP]
         . cases c<;>cases v<;>simp[U,qs,hn,sr,hK,u4,cQ,hC,Ns,fX,hd,zn1,lP]
     . by_cases hn:nm=[]<;>by_cases sr:l=[]<;>simp[U,qs,hn,sr,hh]
   . by_cases hn:nm=[]<;>by_cases sr:l=[]<;>by_cases ss:0<=i<;>by_cases pP:i<=1000000<;>simp[U,qs,hn,sr,ss,pP,W6]
 have hv:G.valid (.mk k nm i h l)=false:=by simp[G.valid,M,O,h3,h4,h5]
 rw[hv];by_cases hn:nm=[]<;>by_cases sr:l=[]<;>by_cases ss:0<=i<;>by_cases pP:i<=1000000<;>simp[U,qs,hn,sr,ss,pP,M,O,h3,h4,h5]
end
def RX(d:Nat)(hd:d<=100000):Valid I Pg 102 (og d):=by
 induction d with
 | zero =>
   refine v1 (fo Tryz.func102 EY.2) λa r h C=>?_
   obtain⟨⟨M,O⟩,rfl⟩:=bF h;have:=G.size_eq a;omega
 | succ d ih =>
   refine v1 (fo Tryz.func102 EY.2) λa r h C=>?_
   obtain⟨⟨M,O⟩,rfl⟩:=bF h
   have hI:Valid I Pg 186 (dH (cO (zsn d))):=v1 (fo Tryz.func186 Hl.2) λa r h C=>by
    obtain⟨⟨g1,g2⟩,rfl⟩:=bF h;exact Mw hρ (E:=EL [(102,og d)]) rfl (ag (ae (ih (by omega)) aG)) rfl g1 g2 C
   have hX:Valid I Pg 205 (dH (Xe 186 d)):=Valid.dH (fo Tryz.func205 bJ.2) λvs v hv C=>by
    obtain⟨l,rfl,g1,g2,g3,rfl⟩:=zjM hv;exact Ze hρ (E:=EL [(186,dH (cO (zsn d)))]) rfl (ag (ae hI aG)) rfl g1 g2 g3 C
   have hC:Valid I Pg 130 (dH (Ns 186 d)):=Valid.dH (fo Tryz.func130 bX.2) λvs v hv C=>by
    obtain⟨l,rfl,g1,g2,g3,rfl⟩:=zjN hv;exact Ru hρ (E:=EL [(205,dH (Xe 186 d))]) rfl (ag (ae hX aG)) rfl g1 g2 g3 C
   refine Ra hρ (E:=EL [(184,zbH),(185,zhx),(130,dH (Ns 186 d))]) rfl
    (ag (ae (zt5 hρ) (ae (Yg hρ) (ae hC aG)))) rfl rfl rfl M ?_ O C
   have:=G.size_eq a;have:=zhH a.args;omega
end
inductive Vl:Xp->Prop
 |mk {e:Xp}:S7 e->(∀ x∈Sd e,Vl x)->Vl e
theorem Vl.zIe(h:Vl e):S7 e:=by cases h;assumption
theorem Vl.ch(h:Vl e):∀ x∈Sd e,Vl x:=by cases h;assumption
def Wf.vl(h:Wf D e):Vl e:=by
 induction h with
 |mk M _ _ ih=>exact .mk M ih
theorem zgl(h:Fc n=true):n.length<=12:=by
 unfold Fc at h;rw[G.valid]at h;simp only[aQ]at h
 grind [Be]
theorem LP(h:j6 n=true):n.length<=12:=by
 unfold j6 at h
 grind
def Y9:(G.mk 5 n 0 0 []).valid=j6 n:=by
 rw[G.valid];simp
def zy0:J.Spec:=dH (cO λn:Z Nat=>if n.length<=12 then some (Fc n)else none)
def N3:J.Spec:=dH (cO λn:Z Nat=>if n.length<=12 then some (j6 n)else none)
def N5(n:Z Nat):Y Bool:=if n.length<=12 then some (!j6 n)else none
open Classical in
def R1(d:Nat)(e:Xp):Y Bool:=if e.depth<=d/\Vl e then some true else none
open Classical in
def zlW(d:Nat)(e:Xp):Y Bool:=if e.depth<=d/\Vl e then some false else none
def zjH(g:Nat)(F:(Z Nat)->Y Bool)(vs:Z V):Y V:=match vs with
 | [a,.func g' []]=>gd (Nat.beq g' g) (W (bo.dec a:Y (Z (Z Nat))) λl=>if l.length<=100000/\∀ x∈l,(F x).isSome=true then some (enc (gU (λx=>(F x).getD false) l 0))else none)
 |_=>none
def So(g:Nat)(F:(Z Nat)->Y Bool)(vs:Z V):Y V:=match vs with
 | [a,.func g' []]=>gd (Nat.beq g' g) (W (bo.dec a:Y (Z (Z Nat))) λl=>if l.length<=100000/\∀ x∈l,(F x).isSome=true then some (enc (l.any λx=>(F x).getD false))else none)
 |_=>none
section
variable {I:Nat->Value}(hρ:J.Good I)
include hρ
section
variable {E:Env}(U:E.P=Pg)(aq:bH I E)
include U aq
def zsg(hc:E.dE 112=dH (cO F)){l:Z (Z Nat)}(hl:l.length<=100000)(b6:∀ x∈l,(F x).isSome=true)(C:HS) :
 aT I Pg 191 [enc l,.func 112 []] C (enc (gU (λx=>(F x).getD false) l 0)) C:=by
 refine fn hρ U aq Tryz.func191 kW.2 rfl (by simp) ?_ C;generalize hr:gU (λx=>(F x).getD false) l 0=r;simp[U]
 refine vC hρ U aq l.length (nn:=0) (λi (_:Unit)=>[(0,.sl (l.map cF) false),(1,.func 112 []),(7,.int .i64 (l.length:Int)),(8,.int .i64 (i:Int))]) (λi _=>[]) (λi _=>gU (λx=>(F x).getD false) (l.drop i) (i:Int)=r) ()
  (aw.auto) (by simpa using hr) ?_ ?_
 . intro _ h K;rw[bz,gU]at h;simp[jU,U];refine bO.mk (aw.auto (TL:=[]) (HL:=[]) (n:=0)) ?_;simp[U,<- h]
 . intro i _ hi h K hK;have cj:(i:Int)<l.length:=by omega
   have cy:=bI (i:=i);have zN:(i*1) / 1=i:=by omega
   obtain⟨q,hq⟩:=bN.1 (b6 l[i] (az hi));rw[aK hi,gU,hq]at h;simp only[eu]at h
   cases q with
   | true =>
     rw[if_pos rfl]at h;simp[jU,U,hi,cj,zN,hc,hq];refine bO.mk (aw.auto (TL:=[(4,.int .i64 (i:Int))]) (HL:=[]) (n:=0)) ?_;simp[U,<- h]
   | false =>
     rw[if_neg (by decide)]at h;have bc:=hK () h;simp[jU,U,hi,cj,zN,hc,hq,cy,-Int.natCast_add];exact bc _ _ (aw.auto)
theorem zs5(hc:E.dE 191=dH (zjH 112 F)){l:Z (Z Nat)}(hl:l.length<=100000)(b6:∀ x∈l,(F x).isSome=true)(C:HS) :
 aT I Pg 111 [enc l,.func 112 []] C (enc (l.any λx=>(F x).getD false)) C:=by
 refine fn hρ U aq Tryz.func111 nM.2 rfl (by simp) ?_ C;have qS:=Ah (λx=>(F x).getD false) l 0 (fA _)
 have hv:zjH 112 F [enc l,.func 112 []]=some (enc (gU (λx=>(F x).getD false) l 0)):=by
  unfold zjH
  simp_all
 simp_all
end
def zIk(hv:Valid I Pg 112 (dH (cO F))):Valid I Pg 191 (dH (zjH 112 F)):=Valid.dH (fo Tryz.func191 kW.2) λvs v h C=>by
 unfold zjH at h;split at h
 . simp only[bE,J.beq_true,aA]at h;obtain⟨rfl,l,hl,h⟩:=h;obtain⟨⟨M,O⟩,rfl⟩:=bF h;rw[bo.bq _ _ hl];exact zsg hρ (E:=EL [(112,dH (cO F))]) rfl (ag (ae hv aG)) rfl M O C
 . cases h
def zIr(hv:Valid I Pg 112 (dH (cO F))):Valid I Pg 111 (dH (So 112 F)):=Valid.dH (fo Tryz.func111 nM.2) λvs v h C=>by
 unfold So at h;split at h
 . simp only[bE,J.beq_true,aA]at h;obtain⟨rfl,l,hl,h⟩:=h;obtain⟨⟨M,O⟩,rfl⟩:=bF h;rw[bo.bq _ _ hl];exact zs5 hρ (E:=EL [(191,dH (zjH 112 F))]) rfl (ag (ae (zIk hρ hv) aG)) rfl M O C
 . cases h
end
def zjG(g:Nat)(F:Xp->Y Bool)(vs:Z V):Y V:=match vs with
 | [a,.func g' []]=>gd (Nat.beq g' g) (W (bo.dec a:Y (Z Xp)) λl=>if l.length<=100000/\∀ x∈l,(F x).isSome=true then some (enc (gU (λx=>(F x).getD false) l 0))else none)
 |_=>none
def zkn(g:Nat)(F:Xp->Y Bool)(vs:Z V):Y V:=match vs with
 | [a,.func g' []]=>gd (Nat.beq g' g) (W (bo.dec a:Y (Z Xp)) λl=>if l.length<=100000/\∀ x∈l,(F x).isSome=true then some (enc (l.any λx=>(F x).getD false))else none)
 |_=>none
section
variable {I:Nat->Value}(hρ:J.Good I)
include hρ
section
variable {E:Env}(U:E.P=Pg)(aq:bH I E)
include U aq
def zsf{F:Xp->Y Bool}(hc:E.dE 115=dH (cO F)){l:Z Xp}(hl:l.length<=100000)(b6:∀ x∈l,(F x).isSome=true)(C:HS) :
 aT I Pg 192 [enc l,.func 115 []] C (enc (gU (λx=>(F x).getD false) l 0)) C:=by
 refine fn hρ U aq Tryz.func192 fZ.2 rfl (by simp) ?_ C;generalize hr:gU (λx=>(F x).getD false) l 0=r;simp[U]
 refine vC hρ U aq l.length (nn:=0) (λi (_:Unit)=>[(0,.sl (l.map dL) false),(1,.func 115 []),(7,.int .i64 (l.length:Int)),(8,.int .i64 (i:Int))]) (λi _=>[]) (λi _=>gU (λx=>(F x).getD false) (l.drop i) (i:Int)=r) ()
  (aw.auto) (by simpa using hr) ?_ ?_
 . intro _ h K;rw[bz,gU]at h;simp[d9,U];refine bO.mk (aw.auto (TL:=[]) (HL:=[]) (n:=0)) ?_;simp[U,<- h]
 . intro i _ hi h K hK;have cj:(i:Int)<l.length:=by omega
   have cy:=bI (i:=i);have zN:(i*11) / 11=i:=by omega
   obtain⟨q,hq⟩:=bN.1 (b6 l[i] (az hi));rw[aK hi,gU,hq]at h;simp only[eu]at h
   cases q with
   | true =>
     rw[if_pos rfl]at h;simp[d9,U,hi,cj,zN,hc,hq];refine bO.mk (aw.auto (TL:=[(4,.int .i64 (i:Int))]) (HL:=[]) (n:=0)) ?_;simp[U,<- h]
   | false =>
     rw[if_neg (by decide)]at h;have bc:=hK () h;simp[d9,U,hi,cj,zN,hc,hq,cy,-Int.natCast_add];exact bc _ _ (aw.auto)
theorem zs4{F:Xp->Y Bool}(hc:E.dE 192=dH (zjG 115 F)){l:Z Xp}(hl:l.length<=100000)(b6:∀ x∈l,(F x).isSome=true)(C:HS) :
 aT I Pg 113 [enc l,.func 115 []] C (enc (l.any λx=>(F x).getD false)) C:=by
 refine fn hρ U aq Tryz.func113 gQ.2 rfl (by simp) ?_ C;have qS:=Ah (λx=>(F x).getD false) l 0 (fA _)
 have hv:zjG 115 F [enc l,.func 115 []]=some (enc (gU (λx=>(F x).getD false) l 0)):=by
  unfold zjG
  simp_all
 simp_all
end
def zIj{F:Xp->Y Bool}(hv:Valid I Pg 115 (dH (cO F))):Valid I Pg 192 (dH (zjG 115 F)):=Valid.dH (fo Tryz.func192 fZ.2) λvs v h C=>by
 unfold zjG at h;split at h
 . simp only[bE,J.beq_true,aA]at h;obtain⟨rfl,l,hl,h⟩:=h;obtain⟨⟨M,O⟩,rfl⟩:=bF h;rw[bo.bq _ _ hl];exact zsf hρ (E:=EL [(115,dH (cO F))]) rfl (ag (ae hv aG)) rfl M O C
 . cases h
def zIq{F:Xp->Y Bool}(hv:Valid I Pg 115 (dH (cO F))):Valid I Pg 113 (dH (zkn 115 F)):=Valid.dH (fo Tryz.func113 gQ.2) λvs v h C=>by
 unfold zkn at h;split at h
 . simp only[bE,J.beq_true,aA]at h;obtain⟨rfl,l,hl,h⟩:=h;obtain⟨⟨M,O⟩,rfl⟩:=bF h;rw[bo.bq _ _ hl];exact zs4 hρ (E:=EL [(192,dH (zjG 115 F))]) rfl (ag (ae (zIj hρ hv) aG)) rfl M O C
 . cases h
section
variable {E:Env}(U:E.P=Pg)(aq:bH I E)
include U aq
def zvV(hV:E.dE 102=og 10)(hn:n.length<=12)(C:HS):aT I Pg 107 [enc n] C (enc (Fc n)) C:=by
 refine fn hρ U aq Tryz.func107 NY.2 rfl (by simp) ?_ C;have M:(G.mk 4 n 0 0 []).size<=10/\(G.mk 4 n 0 0 []).short=true:=⟨by simp[G.size,G.bj],by simp[G.short,G.rV];omega⟩;have hu:(G.mk 4 n 0 0 []).valid=Fc n:=rfl;generalize Fc n=b at hu;simp[U,hV,og,M.1,M.2,hu]
def zsb(hV:E.dE 102=og 10)(hn:n.length<=12)(C:HS):aT I Pg 108 [enc n] C (enc (j6 n)) C:=by
 refine fn hρ U aq Tryz.func108 NZ.2 rfl (by simp) ?_ C;have M:(G.mk 5 n 0 0 []).size<=10/\(G.mk 5 n 0 0 []).short=true:=⟨by simp[G.size,G.bj],by simp[G.short,G.rV];omega⟩;have hu:(G.mk 5 n 0 0 []).valid=j6 n:=Y9;generalize j6 n=b at hu;simp[U,hV,og,M.1,M.2,hu]
def zqZ(hL:E.dE 108=N3)(hn:n.length<=12)(C:HS):aT I Pg 112 [enc n] C (enc (!j6 n)) C:=by
 refine fn hρ U aq Tryz.func112 JD.2 rfl (by simp) ?_ C;simp[U,hL,N3,hn]
theorem zqY(hV:E.dE 57=dH (cO (R1 d)))(hd:e.depth<=d)(hv:Vl e)(C:HS):aT I Pg 115 [enc e] C (enc false) C:=by
 refine fn hρ U aq Tryz.func115 JC.2 rfl (by simp) ?_ C;have hF:R1 d e=some true:=if_pos ⟨hd,hv⟩
 simp_all
theorem zMQ (hU:E.dE 107=zy0) (hCS:E.dE 111=dH (So 112 N5))     (Q1:∀ a∈eo,a.pos=0/\Fc a.dE=true/\a.vars.length<=4/\∀ v∈a.vars,j6 v=true) (sX:eo.length<=100) {sz:Nat} (b8:sz=158)   
 (hT:aw 0 T C (dW [(1,.ptr 0 0 0),(127,.sl (eo.map gL) false),(128,.int .i64 (eo.length:Int)),(129,.int .i64 ((0:Nat):Int))]) { H:=dW [(0,.arr 11 0 [[.int .i64 ek,.int .i64 0,.str en,.int .i64 0,.sl (cM.map dL) false,.sl (eo.map gL) false,.int .i64 0,.str [],.int .i64 0,.int .i64 0,.sl [] false]] true false false)],n:=1,log:=[] })
 (hQ:Q (.exit 2) (dW [(1,.ptr 0 0 0)]) { H:=dW [(0,.arr 11 0 [[.int .i64 ek,.int .i64 0,.str en,.int .i64 0,.sl (cM.map dL) false,.sl (eo.map gL) false,.int .i64 0,.str [],.int .i64 0,.int .i64 0,.sl [] false]] true false false)],n:=1,log:=[] }):Ls I E 0 sz (.loop Bz) T C Q:=by
 subst b8;refine vC hρ U aq eo.length (nn:=1) (λi (_:Unit)=>[(1,.ptr 0 0 0),(127,.sl (eo.map gL) false),(128,.int .i64 (eo.length:Int)),(129,.int .i64 (i:Int))]) (λi _=>[(0,.arr 11 0 [[.int .i64 ek,.int .i64 0,.str en,.int .i64 0,.sl (cM.map dL) false,.sl (eo.map gL) false,.int .i64 0,.str [],.int .i64 0,.int .i64 0,.sl [] false]] true false false)]) (λi _=>True) () hT trivial ?_ ?_
 . intro _ _ K;simp[Bz,U];exact bO.mk (aw.auto) hQ
 . intro i _ hi _ K hK;have cj:(i:Int)<eo.length:=by omega
   have cy:=bI (i:=i);have m1:i*14 / 14=i:=by omega
   have bc:=hK () trivial;obtain⟨M,O,h3,h4⟩:=Q1 _ (az hi);obtain⟨a,ha⟩:∃ a,eo[i]=a:=⟨_,rfl⟩;rw[ha]at M O h3 h4;have eb:=zgl O
   have lB:So 112 N5 [enc a.vars,.func 112 []]=some (.bool false):=by
    unfold So;show gd (Nat.beq _ _) (W (bo.dec (enc a.vars)) _)=_;rw[bo.bZ,J.beq_true.2 rfl];show (if _ then _ else _)=_;rw[if_pos ⟨by omega,λv hv=>by unfold N5;rw[if_pos (LP (h4 v hv))];rfl⟩]
    have:(a.vars.any λx=>(N5 x).getD false)=false:=by
     rw[oL];intro v hv;unfold N5
     grind
    rw[this];rfl
   obtain⟨ap,ac,av,⟨bk,bp,bn,bm,NS,NU,⟨HW,H3,HU,HT,HX⟩⟩⟩:=a;simp only[Am.pos_mk,Am.Md,Am.BR]at M O h3 eb lB;subst M;have h3':¬ (4:Int)<av.length:=by omega
   simp at lB;simp[Bz,U,hi,cj,m1,ha,jO,hU,zy0,eb,O,h3',hCS,lB,cy,-Int.natCast_add];exact bc _ _ (aw.auto)
theorem zvX(hU:E.dE 107=zy0)(hLo:E.dE 108=N3)(Pl:E.dE 110=Ae)(hCS:E.dE 111=dH (So 112 N5))(RE:E.dE 114=dH (cO RM))(hCX:E.dE 113=dH (zkn 115 (zlW d)))(hd:e.depth<=d+1)(hv:Vl e)(C:HS):aT I Pg 57 [enc e] C (enc true) C:=by
 refine fn hρ U aq Tryz.func57 Co.2 rfl (by simp) ?_ C;have lP:=hv.zIe;have hlen:=SA lP;have Hh:RM e=some (Sd e):=if_pos ⟨by omega,by omega,hlen.2.2⟩;have eb:(Sd e).length<=1000:=by unfold Sd;rw[bB,aL];omega
 have lB:zkn 115 (zlW d) [enc (Sd e),.func 115 []]=some (.bool false):=by
  have b6:∀ x∈Sd e,zlW d x=some false:=λx hx=>if_pos ⟨by have:=XR hx;omega,hv.ch x hx⟩
  unfold zkn;show gd (Nat.beq _ _) (W (bo.dec (enc (Sd e))) _)=_;rw[bo.bZ,J.beq_true.2 rfl];show (if _ then _ else _)=_;rw[if_pos ⟨by omega,λx hx=>by rw[b6 x hx];rfl⟩]
  simp_all
 have hz:Ae [.agg [.int .i64 0,.str [],.int .i64 0,.int .i64 0,.sl [] false],.agg [.int .i64 0,.str [],.int .i64 0,.int .i64 0,.sl [] false]] C=Ae [.agg [.int .i64 0,.str [],.int .i64 0,.int .i64 0,.sl [] false],.agg [.int .i64 0,.str [],.int .i64 0,.int .i64 0,.sl [] false]] C:=rfl;obtain⟨cl,zEn⟩:∃ cl,Sd e=cl:=⟨_,rfl⟩;rw[zEn]at Hh lB;obtain⟨pL,hE,ht0,rL,we⟩:=lP;clear eb hz hv zEn;have zn5:(G.mk 0 [] 0 0 []).ok=true:=rfl;obtain⟨ek,ep,en,em,cM,eo,et⟩:=e;simp only[Xp.fw,Xp.pos_mk,Xp.jC,Xp.zno,Xp.yo,Xp.yF,Xp.zgm]at pL hE ht0 rL we hlen;subst pL hE ht0;have Lw:=λek en T C Q=>zMQ hρ U aq hU hCS (ek:=ek) (en:=en) (cM:=cM) (eo:=eo) we hlen.2.1 (sz:=158) rfl (T:=T) (C:=C) (Q:=Q)
 simp[tT,bL]at Hh lB;rcases rL with⟨rfl,O,rfl,rfl⟩|⟨rfl,O,rfl,rfl⟩|⟨rfl,O,h3,rfl⟩|⟨rfl,rfl,h3,rfl⟩|⟨rfl,rfl,h3,h4,h5⟩
 . have ka:=LP O;simp[U,bL,tT,hLo,N3,ka,O,Pl,Ae,zn5];refine Lw 1 en _ _ _ (aw.auto) ?_
   simp_all
 . have ka:=zgl O;simp[U,bL,tT,hU,zy0,ka,O,Pl,Ae,zn5];refine Lw 2 en _ _ _ (aw.auto) ?_
   simp_all
 . have ka:=LP O;obtain⟨x,rfl⟩:=oC.1 h3;simp[U,bL,tT,hLo,N3,ka,O,Pl,Ae,zn5];refine Lw 4 en _ _ _ (aw.auto) ?_
   simp_all
 . obtain⟨x,y,rfl⟩:∃ x y,cM=[x,y]:=by
    match cM,h3 with
    | [x,y],_=>exact⟨x,y,rfl⟩
   simp[U,bL,tT,Pl,Ae,zn5];refine Lw 5 [] _ _ _ (aw.auto) ?_
   simp_all
 . obtain⟨x,rfl⟩:=oC.1 h3;have h6:(0:Int)<eo.length:=by have:=bT.2 h4;omega
   have h7:¬ eo=[]:=h4;have h8:0<eo.length:=bT.2 h4;simp[U,bL,tT,h6,h7,h8,Pl,Ae,zn5];refine Lw 8 [] _ _ _ (aw.auto) ?_
   simp_all
end
def zML:Valid I Pg 107 zy0:=v1 (fo Tryz.func107 NY.2) λa r h C=>by
 obtain⟨M,rfl⟩:=bF h;exact zvV hρ (E:=EL [(102,og 10)]) rfl (ag (ae (RX hρ 10 (by omega)) aG)) rfl M C
def zBS:Valid I Pg 108 N3:=v1 (fo Tryz.func108 NZ.2) λa r h C=>by
 obtain⟨M,rfl⟩:=bF h;exact zsb hρ (E:=EL [(102,og 10)]) rfl (ag (ae (RX hρ 10 (by omega)) aG)) rfl M C
def zIg:Valid I Pg 112 (dH (cO N5)):=v1 (fo Tryz.func112 JD.2) λa r h C=>by
 obtain⟨M,rfl⟩:=bF h;exact zqZ hρ (E:=EL [(108,N3)]) rfl (ag (ae (zBS hρ) aG)) rfl M C
def zaA:∀ d,Valid I Pg 57 (dH (cO (R1 d)))
 | 0=>v1 (fo Tryz.func57 Co.2) λa r h C=>by
   obtain⟨⟨M,_⟩,rfl⟩:=bF h;have:=Xp.nE a;omega
 | d + 1=>v1 (fo Tryz.func57 Co.2) λa r h C=>by
   obtain⟨⟨M,O⟩,rfl⟩:=bF h
   have lz:Valid I Pg 115 (dH (cO (zlW d))):=v1 (fo Tryz.func115 JC.2) λa r h C=>by
    obtain⟨⟨M,O⟩,rfl⟩:=bF h;exact zqY hρ (E:=EL [(57,dH (cO (R1 d)))]) rfl (ag (ae (zaA d) aG)) rfl M O C
   exact zvX hρ (E:=EL [(107,zy0),(108,N3),(110,Ae),(111,dH (So 112 N5)),(114,dH (cO RM)),(113,dH (zkn 115 (zlW d)))]) rfl
    (ag (ae (zML hρ) (ae (zBS hρ) (ae (zqJ hρ) (ae (zIr hρ (zIg hρ)) (ae (Wy hρ) (ae (zIq hρ lz) aG))))))) rfl rfl rfl rfl rfl rfl M O C
end
def o7(s:MS)(h:Int)(b:Bool):MS:=⟨some (match s.z with|none=>(0,0)|some (x,y)=>(x+1,y+1)),s.sl++[⟨false,tT,h,b⟩],s.tr++[⟨s.sl.length,⟨false,tT,0,false⟩,true⟩]⟩
def Kg(M:s.sl.length<=10000)(O:s.tr.length<=8000):uY s [.int .i64 h,.bool b]=some (enc (fq s.sl.length),o7 s h b):=by
 unfold uY;show gd (et (Nat.ble (dA s.sl) 10000) (Nat.ble (dA s.tr) 8000)) _=_;rw[dI,dI,gY.2 M,gY.2 O];rfl
def iK(s:MS):Nat->MS
 | 0=>s
 |k+1=>o7 (iK s k) 1000000 false
def Fy(s:MS):∀ k,(iK s k).sl.length=s.sl.length+k
 | 0=>rfl
 | k+1=>by
   show ((iK s k).sl++[_]).length=_;rw[bB,Fy s k];rfl
def Fx(s:MS):∀ k,(iK s k).tr.length=s.tr.length+k
 | 0=>rfl
 | k+1=>by
   show ((iK s k).tr++[_]).length=_;rw[bB,Fx s k];rfl
def cz(i k:Nat):Z G:=(List.range k).map λj=>fq ((i+j:Nat):Int)
def AJ:(cz i k).length=k:=by simp[cz]
def Ec{j:Nat}(h:j<(cz i k).length):(cz i k)[j]=fq ((i+j:Nat):Int):=by simp[cz]
def oU(c:Scheme):Nat:=(min (max c.count 0) (c.type.size:Int)).toNat
def G9(i:Nat)(c:Scheme):G:=c.type.D8 (j4 (cz i (oU c)))
def um(n:MN)(zE8 zE7:J.Obj)(rw:J.Obj)(s:MS):Z (Nat×J.Obj):=match s.z with
 |none=>[(0,mN n.n),(1,zE8),(2,zE7),(3,rw)]
 |some (a,b)=>[(0,mB 1 2 s.sl s.tr ⟨a,b,n.n,n.h⟩),(1,mS s.sl ⟨a,b,n.n,n.h⟩),(2,mT s.tr ⟨a,b,n.n,n.h⟩),(3,zE8),(4,zE7),(5,rw)]
def uj(k i:Nat)(s:MS):Z (Nat×V):=match s.z with
 |none=>[(0,.ptr 0 0 0),(3,.ptr 1 0 0),(4,.ptr 2 0 0),(5,.own 3 0 0 k (some k)),(16,.int .i64 (k:Int)),(17,.int .i64 (i:Int))]
 |some _=>[(0,.ptr 0 0 0),(3,.ptr 3 0 0),(4,.ptr 4 0 0),(5,.own 5 0 0 k (some k)),(16,.int .i64 (k:Int)),(17,.int .i64 (i:Int))]
section
variable {I:Nat->Value}(hρ:J.Good I)
include hρ
section
variable {E:Env}(U:E.P=Pg)(aq:bH I E)
include U aq
theorem Vd(hF:E.dE 200=eY (C9 0 EO))(hN:E.dE 104=dH (cO (wX 1000000)))(hO:E.dE 235=IP)
 {n:MN}     (er:c.type.ok=true) (b8:c.type.size<=1000) (hl:da.length+oU c<=10000) (ht:eJ.length+oU c<=8000) :
 Wp I E 3 30 jQ.1 ((PT.leaf.set 0 (.ptr 0 0 0)).set 1 (enc c)) { H:=dW (uq n ⟨some (a0,b0),da,eJ⟩),n:=3,log:=[] } (J.Leaves E.P Tryz.f165 (aH 3 (enc (G9 da.length c)) (uq n (iK ⟨some (a0,b0),da,eJ⟩ (oU c))))):=by
 obtain⟨n,hn⟩:=n;obtain⟨k,hk⟩:∃ k,oU c=k:=⟨_,rfl⟩;have u9:k<=1000:=by rw[<- hk];unfold oU;omega
 obtain⟨cc,ct⟩:=c;have lB:wX 1000000 ct=some (ct.size:Int):=if_pos ⟨er,by simp only at b8;omega,by omega⟩;obtain⟨m,hm⟩:∃ m,ct.size=m:=⟨_,rfl⟩
 have AE:(if (m:Int)<(if cc<0 then 0 else cc)then (m:Int)else (if cc<0 then 0 else cc))=(k:Int):=by
  rw[<- hk];unfold oU
  grind
 have mc:G9 da.length ⟨cc,ct⟩=ct.D8 (j4 (cz da.length k)):=by unfold G9;rw[hk]
 have r1:k*64<=1048576:=by omega
 have r2:k*5<=1048576:=by omega
 rw[hm]at lB;rw[mc,hk];rw[hk]at hl ht;have zjY:=er;simp only at zjY b8;clear er mc hk;obtain⟨q,hq⟩:∃ q,ct.D8 (j4 (cz da.length k))=q:=⟨_,rfl⟩;rw[hq];obtain⟨ck,cn,ci,ch,cl⟩:=ct;cases q;simp[U,hN,hn,lB,AE,r1,r2,aJ];have ka:(cz da.length k).length=k:=AJ;refine⟨rfl,?_⟩
 refine vC hρ U aq k (nn:=6) (λi (_:Nat×Nat×Z Slot×Z Change)=>[(0,.ptr 0 0 0),(3,.ptr 3 0 0),(4,.ptr 4 0 0),(5,.own 5 0 0 k (some k)),(16,.int .i64 (k:Int)),(17,.int .i64 (i:Int))])
  (λi st=>[(0,mB 1 2 st.2.2.1 st.2.2.2 ⟨st.1,st.2.1,n,hn⟩),(1,mS st.2.2.1 ⟨st.1,st.2.1,n,hn⟩),(2,mT st.2.2.2 ⟨st.1,st.2.1,n,hn⟩),(3,.arr 6 0 [[.int .i64 cc,.int .i64 ck,.str cn,.int .i64 ci,.int .i64 ch,.sl (cl.map au) false]] true false false),(4,box Ya),(5,.arr 5 0 (nL (cz da.length k) k i) true false true)])
  (λi st=>iK ⟨some (a0,b0),da,eJ⟩ i=⟨some (st.1,st.2.1),st.2.2.1,st.2.2.2⟩) (a0,b0,da,eJ)
  (aw.auto (hH:=by simp[zR,Ya])) rfl ?_ ?_
 . rintro ⟨a,b,sl,tr⟩ hi K;simp only at hi;rw[hi,zT ka];have lP:(cz da.length k).length<=100000:=by rw[ka];omega
   have nh:k<=(cz da.length k).length:=by omega
   have mA:List.take k ((cz da.length k).map au)=(cz da.length k).map au:=aZ (by rw[aL];omega);generalize cz da.length k=vs at ka hq lP nh mA;simp[iY,U];refine bO.mk (aw.auto (TL:=[(0,.ptr 0 0 0),(3,.ptr 3 0 0),(4,.ptr 4 0 0),(5,.own 5 0 0 k (some k))]) (HL:=[(0,mB 1 2 sl tr ⟨a,b,n,hn⟩),(1,mS sl ⟨a,b,n,hn⟩),(2,mT tr ⟨a,b,n,hn⟩),(3,.arr 6 0 [[.int .i64 cc,.int .i64 ck,.str cn,.int .i64 ci,.int .i64 ch,.sl (cl.map au) false]] true false false),(4,box Ya),(5,.arr 5 0 (vs.map au) true false true)]) (n:=6)) ?_;simp[U,hO,IP,zjY,lP,nh,mA,hq];exact aH.fu rfl rfl rfl (by simp)
 . rintro i ⟨a,b,sl,tr⟩ hi C K hK;simp only at C;have cj:(i:Int)<k:=by omega
   have cy:=bI (i:=i);have n9:sl.length=da.length+i:=by have:=Fy ⟨some (a0,b0),da,eJ⟩ i;rw[C]at this;exact this
   have oE:tr.length=eJ.length+i:=by have:=Fx ⟨some (a0,b0),da,eJ⟩ i;rw[C]at this;exact this
   have hA:=Kg (s:=⟨some (a,b),sl,tr⟩) (h:=1000000) (b:=false) (by simp only;omega) (by simp only;omega);have la:iK ⟨some (a0,b0),da,eJ⟩ (i+1)=o7 ⟨some (a,b),sl,tr⟩ 1000000 false:=by show o7 (iK _ i) _ _=_;rw[C]
   obtain⟨cR,dt⟩:∃ q,(o7 ⟨some (a,b),sl,tr⟩ 1000000 false).sl=q:=⟨_,rfl⟩;obtain⟨cw,pH⟩:∃ q,(o7 ⟨some (a,b),sl,tr⟩ 1000000 false).tr=q:=⟨_,rfl⟩;have Wb:o7 ⟨some (a,b),sl,tr⟩ 1000000 false=⟨some (a+1,b+1),cR,cw⟩:=by rw[<- dt,<- pH];rfl
   rw[Wb]at hA la;have bc:=hK (a+1,b+1,cR,cw) la;have Xh:i<(nL (cz da.length k) k i).length:=by rw[Cy ka (dN hi)];exact hi
   have m9:=zS ka hi Xh;rw[Ec,<- n9]at m9;have zN:(i*5) / 5=i:=by omega
   have Ms:(i*5) % 5=0:=by omega
   simp only at hA;generalize fq (sl.length:Int)=y at hA m9;cases y;simp[kQ]at m9;simp[-lX,-lW]at hA;simp[-lX,-lW,iY,U,hF,hn,hi,cj,hA,cy,Xh,zN,Ms,m9,aJ,-Int.natCast_add];exact bc _ _ (aw.auto)
theorem RA (hF:E.dE 200=eY (C9 0 EO)) (hN:E.dE 104=dH (cO (wX 1000000))) (hO:E.dE 235=IP)
 {n:MN}  (er:c.type.ok=true) (b8:c.type.size<=1000) (hl:oU c<=8000) :
 Wp I E 1 30 jQ.1 ((PT.leaf.set 0 (.ptr 0 0 0)).set 1 (enc c)) { H:=dW (uq n ⟨none,[],[]⟩),n:=1,log:=[] } (J.Leaves E.P Tryz.f165 (aH 1 (enc (G9 0 c)) (uq n (iK ⟨none,[],[]⟩ (oU c))))):=by
 obtain⟨n,hn⟩:=n;obtain⟨k,hk⟩:∃ k,oU c=k:=⟨_,rfl⟩;have u9:k<=1000:=by rw[<- hk];unfold oU;omega
 obtain⟨cc,ct⟩:=c;have lB:wX 1000000 ct=some (ct.size:Int):=if_pos ⟨er,by simp only at b8;omega,by omega⟩;obtain⟨m,hm⟩:∃ m,ct.size=m:=⟨_,rfl⟩
 have AE:(if (m:Int)<(if cc<0 then 0 else cc)then (m:Int)else (if cc<0 then 0 else cc))=(k:Int):=by
  rw[<- hk];unfold oU
  grind
 have mc:G9 0 ⟨cc,ct⟩=ct.D8 (j4 (cz 0 k)):=by unfold G9;rw[hk]
 have r1:k*64<=1048576:=by omega
 have r2:k*5<=1048576:=by omega
 rw[hm]at lB;rw[mc,hk];rw[hk]at hl;have zjY:=er;simp only at zjY b8;clear er mc hk;obtain⟨q,hq⟩:∃ q,ct.D8 (j4 (cz 0 k))=q:=⟨_,rfl⟩;rw[hq];have eb:cz 0 k=cz 0 k:=rfl;obtain⟨ck,cn,ci,ch,cl⟩:=ct;cases q;simp[U,hN,hn,lB,AE,r1,r2,aJ];have ka:(cz 0 k).length=k:=AJ;refine⟨rfl,?_⟩
 refine vC hρ U aq k (nn:=6) (λi (st:MS)=>uj k i st)
  (λi st=>um ⟨n,hn⟩ (.arr 6 0 [[.int .i64 cc,.int .i64 ck,.str cn,.int .i64 ci,.int .i64 ch,.sl (cl.map au) false]] true false false) (box Ya) (.arr 5 0 (nL (cz 0 k) k i) true false true) st)
  (λi st=>iK ⟨none,[],[]⟩ i=st) ⟨none,[],[]⟩
  (aw.auto (by simp[uj,um]) (by simp[uj,um,zR,Ya]) (by simp[uj,um]) (by simp[uj,um]<;>(intro x hx;first|omega|exact⟨.inl hx,by omega⟩))) rfl ?_ ?_
 . rintro ⟨z,sl,tr⟩ hi K;rw[hi,zT ka];have lP:(cz 0 k).length<=100000:=by rw[ka];omega
   have nh:k<=(cz 0 k).length:=by omega
   have mA:List.take k ((cz 0 k).map au)=(cz 0 k).map au:=aZ (by rw[aL];omega);generalize cz 0 k=vs at ka hq lP nh mA
   cases z with
   | none =>
     simp[iY,U,uj,um];refine bO.mk (aw.auto (TL:=[(0,.ptr 0 0 0),(3,.ptr 1 0 0),(4,.ptr 2 0 0),(5,.own 3 0 0 k (some k))]) (HL:=[(0,mN n),(1,.arr 6 0 [[.int .i64 cc,.int .i64 ck,.str cn,.int .i64 ci,.int .i64 ch,.sl (cl.map au) false]] true false false),(2,box Ya),(3,.arr 5 0 (vs.map au) true false true)]) (n:=6)) ?_
     have hz:sl=[]/\tr=[]:=by
      cases k with
      |zero=>cases hi;exact⟨rfl,rfl⟩
      |succ k=>exact absurd (congrArg MS.z hi) (by simp[iK,o7])
     obtain⟨rfl,rfl⟩:=hz;simp[U,hO,IP,zjY,lP,nh,mA,hq];simp[aH.fu]
   | some z =>
     obtain⟨a,b⟩:=z;simp[iY,U,uj,um];refine bO.mk (aw.auto (TL:=[(0,.ptr 0 0 0),(3,.ptr 3 0 0),(4,.ptr 4 0 0),(5,.own 5 0 0 k (some k))]) (HL:=[(0,mB 1 2 sl tr ⟨a,b,n,hn⟩),(1,mS sl ⟨a,b,n,hn⟩),(2,mT tr ⟨a,b,n,hn⟩),(3,.arr 6 0 [[.int .i64 cc,.int .i64 ck,.str cn,.int .i64 ci,.int .i64 ch,.sl (cl.map au) false]] true false false),(4,box Ya),(5,.arr 5 0 (vs.map au) true false true)]) (n:=6)) ?_;simp[U,hO,IP,zjY,lP,nh,mA,hq];simp[aH.fu]
 . rintro i ⟨z,sl,tr⟩ hi C K hK;have cj:(i:Int)<k:=by omega
   have cy:=bI (i:=i);have n9:sl.length=0+i:=by have:=Fy ⟨none,[],[]⟩ i;rw[C]at this;exact this
   have oE:tr.length=0+i:=by have:=Fx ⟨none,[],[]⟩ i;rw[C]at this;exact this
   have hA:=Kg (s:=⟨z,sl,tr⟩) (h:=1000000) (b:=false) (by simp only;omega) (by simp only;omega);have la:iK ⟨none,[],[]⟩ (i+1)=o7 ⟨z,sl,tr⟩ 1000000 false:=by show o7 (iK _ i) _ _=_;rw[C]
   obtain⟨cR,dt⟩:∃ q,(o7 ⟨z,sl,tr⟩ 1000000 false).sl=q:=⟨_,rfl⟩;obtain⟨cw,pH⟩:∃ q,(o7 ⟨z,sl,tr⟩ 1000000 false).tr=q:=⟨_,rfl⟩;obtain⟨a2,b2,zE⟩:∃ a b,(o7 ⟨z,sl,tr⟩ 1000000 false).z=some (a,b):=⟨_,_,rfl⟩;have Wb:o7 ⟨z,sl,tr⟩ 1000000 false=⟨some (a2,b2),cR,cw⟩:=by rw[<- dt,<- pH,<- zE]
   have US:z=none->sl=[]/\tr=[]:=by
    rintro rfl
    cases i with
    |zero=>cases C;exact⟨rfl,rfl⟩
    |succ i=>exact absurd (congrArg MS.z C) (by simp[iK,o7])
   rw[Wb]at hA la;have bc:=hK ⟨some (a2,b2),cR,cw⟩ la;have Xh:i<(nL (cz 0 k) k i).length:=by rw[Cy ka (dN hi)];exact hi
   have m9:=zS ka hi Xh;rw[Ec,<- n9]at m9;have zN:(i*5) / 5=i:=by omega
   have Ms:(i*5) % 5=0:=by omega
   simp only at hA;generalize fq (sl.length:Int)=y at hA m9;cases y;simp[kQ]at m9;simp[-lX,-lW]at hA
   cases z with
   | none =>
     obtain⟨rfl,rfl⟩:=US rfl;simp[-lX,-lW,uj,um,iY,U,hF,hn,hi,cj,hA,cy,Xh,zN,Ms,m9,aJ,-Int.natCast_add];exact bc _ _ (aw.auto (by simp[uj,um,-Int.natCast_add]) (by simp[uj,um]) (by simp[uj,um]) (by simp[uj,um]<;>(intro x hx;first|omega|exact⟨.inl hx,by omega⟩)))
   | some z =>
     cases z;simp[-lX,-lW,uj,um,iY,U,hF,hn,hi,cj,hA,cy,Xh,zN,Ms,m9,aJ,-Int.natCast_add];exact bc _ _ (aw.auto (by simp[uj,um,-Int.natCast_add]) (by simp[uj,um]) (by simp[uj,um]) (by simp[uj,um]<;>(intro x hx;first|omega|exact⟨.inl hx,by omega⟩)))
end
end
theorem zc9{args:Z V}(h:uY s args=some q):∃ (a b:Nat) (sl:Z Slot) (tr:Z Change),q=(enc (fq s.sl.length),⟨some (a,b),sl,tr⟩):=by
 obtain⟨_,_,_,_,_,rfl⟩:=JA h
 grind
def iE(d f:Nat)(s:MS)(args:Z V):Y (V×MS):=match args with
 | [tv]=>W (bo.dec tv:Y G) λt=>if s.sl.length<=10000 then (if (ao.w ⟨s.sl,s.tr⟩ t).kind=1 then (match s.z with
  |none=>none
  |some _=>W (uY s [.int .i64 1000000,.bool false]) λp=>W (uY p.2 [.int .i64 1000000,.bool false]) λq=>W (jD d f q.2 [enc (ao.w ⟨s.sl,s.tr⟩ t),enc (arr (fq s.sl.length) (fq p.2.sl.length))]) λr=>some (.tuple [p.1,q.1,r.1],r.2))
  else some (.tuple [enc (isArrow (ao.w ⟨s.sl,s.tr⟩ t)).a,enc (isArrow (ao.w ⟨s.sl,s.tr⟩ t)).b,.bool (isArrow (ao.w ⟨s.sl,s.tr⟩ t)).c],s))else none
 |_=>none
theorem rR   {args:Z V}  (h:iE d f s args=some q):∃ x w:G,args=[enc x]/\ao.w ⟨s.sl,s.tr⟩ x=w/\s.sl.length<=10000 /\
 ((w.kind≠1/\q=(.tuple [enc (isArrow w).a,enc (isArrow w).b,.bool (isArrow w).c],s)) \/
 (w.kind=1/\∃ (a0 b0 a1 b1 a2 b2 a3 b3:Nat) (cY cR F4:Z Slot) (mR cw Ff:Z Change) (v u:G) (r:Bool),s.z=some (a0,b0)/\uY s [.int .i64 1000000,.bool false]=some (enc v,⟨some (a1,b1),cY,mR⟩)/\uY ⟨some (a1,b1),cY,mR⟩ [.int .i64 1000000,.bool false]=some (enc u,⟨some (a2,b2),cR,cw⟩) /\
   jD d f ⟨some (a2,b2),cR,cw⟩ [enc w,enc (arr v u)]=some (.bool r,⟨some (a3,b3),F4,Ff⟩)/\q=(.tuple [enc v,enc u,.bool r],⟨some (a3,b3),F4,Ff⟩))):=by
 unfold iE at h;split at h
 . simp only[aA]at h;obtain⟨x,hx,h⟩:=h;have e5:=bo.bq _ _ hx;subst e5;split at h
   . rename_i hl;split at h
     . rename_i hk;split at h
       . cases h
       . rename_i z hz;simp only[aA]at h;obtain⟨p,hp,q1,u3,r,hr,h⟩:=h;cases h;obtain⟨a1,b1,cY,mR,rfl⟩:=zc9 hp;obtain⟨a2,b2,cR,cw,rfl⟩:=zc9 u3;obtain⟨a3,b3,rr,e3,e4⟩:=QC hr;obtain⟨rv,z3,F4,Ff⟩:=r
         grind
     grind
   . cases h
 . cases h
def Ea(s:MS)(args:Z V):Y (V×MS):=match args with
 | [cv]=>W (bo.dec cv:Y Scheme) λc=>if c.type.ok=true/\c.type.size<=1000/\s.sl.length+oU c<=10000/\s.tr.length+oU c<=8000 then some (enc (G9 s.sl.length c),iK s (oU c))else none
 |_=>none
def OY{args:Z V}(h:Ea s args=some q):∃ c:Scheme,args=[enc c]/\c.type.ok=true/\c.type.size<=1000/\s.sl.length+oU c<=10000/\s.tr.length+oU c<=8000/\q=(enc (G9 s.sl.length c),iK s (oU c)):=by
 unfold Ea at h;split at h
 . simp only[aA]at h;obtain⟨c,hc,h⟩:=h;split at h
   . rename_i hh;cases h;exact⟨c,by rw[bo.bq _ _ hc],hh.1,hh.2.1,hh.2.2.1,hh.2.2.2,rfl⟩
   . cases h
 . cases h
section
variable {I:Nat->Value}(hρ:J.Good I)
include hρ
def Qc(d f:Nat):Valid I Pg 125 (eY (C9 0 (iE d f))):=by
 refine Valid.sym (fo Tryz.func125 gV.2) λvs C D h=>?_
 obtain⟨args,n,s,s',r,ds,b,c,q,hF,hz,rfl,_,hr,hg,b4⟩:=Gh h;obtain⟨x,w,rfl,hw,hl,hh⟩:=rR hF;obtain⟨z,sl,tr⟩:=s
 have cQ:∀ ρ',J.Good ρ'->bH ρ' (EL [(200,eY (C9 0 EO)),(167,eY (C9 0 (jD d f))),(199,yq KA (wA (E2 Ie))),(90,Mi),(40,dH (cO λt:G=>some (isArrow t)))]):=λρ' fF =>
  ag (ae (SB fF) (ae (Mv fF d f) (ae (Valid.yq (zdx fF) (zgg fF)) (ae (zgf fF) (ae (Ww fF) aG)))))
 rcases hh with⟨hk,hq⟩|⟨hk,a0,b0,a1,b1,a2,b2,a3,b3,cY,cR,F4,mR,cw,Ff,v,u,r,Bm,M,O,h3,hq⟩
 . cases hq
   cases z with
   | none =>
     obtain⟨rfl,rfl⟩:=hz rfl;exact sy hρ Tryz.func125 gV.2 rfl hg (λρ' fF=>⟨_,rfl,cQ ρ' fF,Ku fF rfl (cQ ρ' fF) rfl rfl hw hk⟩) b4
   | some z =>
     cases z;exact sy hρ Tryz.func125 gV.2 rfl hg (λρ' fF=>⟨_,rfl,cQ ρ' fF,Kv fF rfl (cQ ρ' fF) rfl rfl (by simp only at hl;omega) hw hk⟩) b4
 . cases hq;simp only at Bm;subst Bm;exact sy hρ Tryz.func125 gV.2 rfl hg (λρ' fF=>⟨_,rfl,cQ ρ' fF,Kt fF rfl (cQ ρ' fF) rfl rfl rfl rfl (by simp only at hl;omega) hw hk M O h3⟩) b4
def zqT:Valid I Pg 165 (eY (C9 0 Ea)):=by
 refine Valid.sym (fo Tryz.func165 jQ.2) λvs C D h=>?_
 obtain⟨args,n,s,s',r,ds,b,c,q,hF,hz,rfl,_,hr,hg,b4⟩:=Gh h;obtain⟨sc,rfl,M,O,h3,h4,hq⟩:=OY hF;cases hq;obtain⟨z,sl,tr⟩:=s
 have cQ:∀ ρ',J.Good ρ'->bH ρ' (EL [(200,eY (C9 0 EO)),(104,dH (cO (wX 1000000))),(235,IP)]):=λρ' fF =>
  ag (ae (SB fF) (ae (Yc fF 1000000) (ae (zlB fF) aG)))
 cases z with
 | none =>
   obtain⟨rfl,rfl⟩:=hz rfl;exact sy hρ Tryz.func165 jQ.2 rfl hg (λρ' fF=>⟨_,rfl,cQ ρ' fF,RA fF rfl (cQ ρ' fF) rfl rfl rfl M O (by simpa using h4)⟩) b4
 | some z =>
   cases z;exact sy hρ Tryz.func165 jQ.2 rfl hg (λρ' fF=>⟨_,rfl,cQ ρ' fF,Vd fF rfl (cQ ρ' fF) rfl rfl rfl M O h3 h4⟩) b4
end
def uy (d f:Nat):Nat->MS->G->Z G->Y (Y (Z G×G)×MS)
 | 0,s,r,acc=>some (some (acc,r),s)
 | k+1,s,r,acc=>W (iE d f s [enc r]) λq=>(match q.1 with
   |.tuple [av,bv,.bool true]=>W (bo.dec av:Y G) λa=>W (bo.dec bv:Y G) λb=>uy d f k q.2 b (acc++[a])
   |.tuple [_,_,.bool false]=>some (none,q.2)
   |_=>none)
def Ai{a b:Nat}{args:Z V}(h:iE d f ⟨some (a,b),sl,tr⟩ args=some q):∃ (x y:G) (r:Bool),q.1=.tuple [enc x,enc y,.bool r]/\∃ (a2 b2:Nat),q.2.z=some (a2,b2):=by
 obtain⟨x,w,rfl,hw,hl,hh⟩:=rR h;rcases hh with⟨hk,rfl⟩|⟨hk,a0,b0,a1,b1,a2,b2,a3,b3,cY,cR,F4,mR,cw,Ff,v,u,r,Bm,M,O,h3,rfl⟩
 . exact⟨_,_,_,rfl,_,_,rfl⟩
 . exact⟨_,_,_,rfl,_,_,rfl⟩
section
variable {I:Nat->Value}(hρ:J.Good I)
include hρ
section
variable {E:Env}(U:E.P=Pg)(aq:bH I E)
include U aq
def NP  (hF:E.dE 125=eY (C9 0 (iE d f)))
 {n:Nat} (hn:n+1<=1000)    {ls:Z G} {kk:Nat} {ts:G} {R:Y (Z G×G)×MS} (u9:k<=1000) (me:kk=1\/kk=3\/kk=4) (hR:uy d f k ⟨some (a0,b0),da,eJ⟩ r0 []=some R)
 {sz:Nat} (b8:sz=62)   
 (hT:aw kk T C (dW [(0,.ptr 0 0 0),(7,.ptr 4 0 0),(8,.aE),(9,.bool false),(10,.ptr 5 0 0),(11,oV 6 (([]:Z G).map au)),(29,.int .i64 (k:Int)),(30,.int .i64 ((0:Nat):Int))]) { H:=dW [(0,.arr (n+4) 0 [.sl (D.map aP) false::.own 1 a0 0 da.length none::.own 2 b0 0 eJ.length none::.own 3 ls.length 0 (ls.length+1) none::jS 4 n] true false false),(1,.arr 8 a0 (da.map dG) false false true),(2,.arr 10 b0 (eJ.map bW) false false true),(3,.arr 5 ls.length (au ts::ls.map au) false false true),(4,box (au g)),(5,box (au r0))],n:=7,log:=[] })
 (DP:∀ (a b:Nat) (sl:Z Slot) (tr:Z Change) (r:G) (acc:Z G),R=(some (acc,r),⟨some (a,b),sl,tr⟩)->acc.length=k->Q (.exit 0) (dW [(0,.ptr 0 0 0),(7,.ptr 4 0 0),(10,.ptr 5 0 0),(11,oV 6 (acc.map au))]) { H:=dW ([(0,.arr (n+4) 0 [.sl (D.map aP) false::.own 1 a 0 sl.length none::.own 2 b 0 tr.length none::.own 3 ls.length 0 (ls.length+1) none::jS 4 n] true false false),(1,.arr 8 a (sl.map dG) false false true),(2,.arr 10 b (tr.map bW) false false true),(3,.arr 5 ls.length (au ts::ls.map au) false false true),(4,box (au g)),(5,box (au r))]++oH 6 5 (acc.map au)),n:=7,log:=[] })
 (E1:∀ (a b:Nat) (sl:Z Slot) (tr:Z Change),R=(none,⟨some (a,b),sl,tr⟩)->Q .ret (dW [(8,.aE),(9,.bool false)]) { H:=dW [(0,.arr (n+4) 0 [.sl (D.map aP) false::.own 1 a 0 sl.length none::.own 2 b 0 tr.length none::.own 3 ls.length 0 (ls.length+1) none::jS 4 n] true false false),(1,.arr 8 a (sl.map dG) false false true),(2,.arr 10 b (tr.map bW) false false true),(3,.arr 5 ls.length (au ts::ls.map au) false false true)],n:=7,log:=[] }) :
 Ls I E kk sz (.loop dD) T C Q:=by
 subst b8;rcases me with rfl|rfl|rfl
 all_goals
  refine vC hρ U aq k (nn:=7) (λi (st:Nat×Nat×Z Slot×Z Change×G×Z G)=>[(0,.ptr 0 0 0),(7,.ptr 4 0 0),(8,.aE),(9,.bool false),(10,.ptr 5 0 0),(11,oV 6 (st.2.2.2.2.2.map au)),(29,.int .i64 (k:Int)),(30,.int .i64 (i:Int))])
   (λi st=>[(0,.arr (n+4) 0 [.sl (D.map aP) false::.own 1 st.1 0 st.2.2.1.length none::.own 2 st.2.1 0 st.2.2.2.1.length none::.own 3 ls.length 0 (ls.length+1) none::jS 4 n] true false false),(1,.arr 8 st.1 (st.2.2.1.map dG) false false true),(2,.arr 10 st.2.1 (st.2.2.2.1.map bW) false false true),(3,.arr 5 ls.length (au ts::ls.map au) false false true),(4,box (au g)),(5,box (au st.2.2.2.2.1))]++oH 6 5 (st.2.2.2.2.2.map au))
   (λi st=>st.2.2.2.2.2.length=i/\uy d f (k-i) ⟨some (st.1,st.2.1),st.2.2.1,st.2.2.2.1⟩ st.2.2.2.2.1 st.2.2.2.2.2=some R) (a0,b0,da,eJ,r0,[]) (by simpa using hT) ⟨rfl,by simpa using hR⟩ ?_ ?_
  . rintro ⟨a,b,sl,tr,r,acc⟩ ⟨M,O⟩ K;simp only at M O;rw[lh,uy]at O;have cH:=DP a b sl tr r acc (bS O).symm M;cases r;cases g
    cases acc with
    | nil =>
      simp[dD,U];exact bO.mk (aw.auto) cH
    | cons x acc =>
      simp[dD,U];exact bO.mk (aw.auto) cH
  . rintro i ⟨a,b,sl,tr,r,acc⟩ hi ⟨M,O⟩ K hK;simp only at M O;obtain⟨m,hm⟩:∃ m,k-i=m+1:=⟨k-i-1,by omega⟩;have jz:k-(i+1)=m:=by omega
    have cj:(i:Int)<k:=by omega
    have cy:=bI (i:=i);rw[hm,uy]at O;simp only[aA]at O;obtain⟨q,hq,O⟩:=O;obtain⟨av,bv,is,e1,a2,b2,e2⟩:=Ai hq;obtain⟨qv,z2,cR,cw⟩:=q;simp only at e1 e2;subst e1 e2;obtain⟨xk,xn,xi,xh,xl⟩:=av;obtain⟨yk,yn,yi,yh,yl⟩:=bv;have k1:(acc.length+1)*64<=1048576:=by omega
    cases is with
    | true =>
      simp only[bo.bZ,bU]at O;have bc:=hK (a2,b2,cR,cw,.mk yk yn yi yh yl,acc++[.mk xk xn xi xh xl]) ⟨by simp[M],by rw[jz];exact O⟩;cases r;cases g;simp at hq
      cases acc with
      | nil =>
        simp[dD,U,cj,hF,hn,hq,cy,aJ,-Int.natCast_add];exact bc _ _ (aw.auto)
      | cons x acc =>
        rw[aX]at k1;simp[dD,U,cj,hF,hn,hq,cy,k1,aY,aJ,-Int.natCast_add];exact bc _ _ (aw.auto)
    | false =>
      have cH:=E1 a2 b2 cR cw (bS O).symm;cases r;cases g;simp at hq
      cases acc with
      | nil =>
        simp[dD,U,cj,hF,hn,hq,cy,aJ,-Int.natCast_add];exact bO.mk (aw.auto) cH
      | cons x acc =>
        simp[dD,U,cj,hF,hn,hq,cy,aJ,-Int.natCast_add];exact bO.mk (aw.auto) cH
end
end
def FO{args:Z V}(h:yE d f s args=some q):∃ (e:Bool) (a b:Nat) (sl:Z Slot) (tr:Z Change),q=(.bool e,⟨some (a,b),sl,tr⟩):=by
 obtain⟨_,_,_,_,_,_,_,_,_,_,_,_,_,_,rfl⟩:=XZ h;exact⟨_,_,_,_,_,rfl⟩
def UN{args:Z V}(h:jD d f s args=some q):∃ (e:Bool) (a b:Nat) (sl:Z Slot) (tr:Z Change),q=(.bool e,⟨some (a,b),sl,tr⟩):=by
 obtain⟨_,_,_,_,_,_,_,_,_,_,rfl⟩:=Gz h;exact⟨_,_,_,_,_,rfl⟩
def Ko (d f:Nat) (g:G) (R:Y (Z G×G)×MS):Y (Z G×Bool×MS):=match R with
 |(none,s)=>some ([],false,s)
 | (some (acc,r),s)=>W (yE d f s [enc g]) λq1=>(match q1.1 with
   | .bool true=>W (yE d f q1.2 [enc r]) λq2=>(match q2.1 with
     | .bool true=>W (jD d f q2.2 [enc r,enc g]) λq3=>(match q3.1 with
       |.bool e=>some (acc,e,q3.2)
       |_=>none)
     |.bool false=>some (acc,false,q2.2)
     |_=>none)
   |.bool false=>some (acc,false,q1.2)
   |_=>none)
def Dm{r:G}{acc:Z G}{e:Bool}(h:Ko d f g (some (acc,r),s)=some (kA,e,s')):kA=acc/\∃ (e1:Bool) (a1 b1:Nat) (cY:Z Slot) (mR:Z Change),yE d f s [enc g]=some (.bool e1,⟨some (a1,b1),cY,mR⟩) /\
 ((e1=false/\e=false/\s'=⟨some (a1,b1),cY,mR⟩)\/(e1=true/\∃ (e2:Bool) (a2 b2:Nat) (cR:Z Slot) (cw:Z Change),yE d f ⟨some (a1,b1),cY,mR⟩ [enc r]=some (.bool e2,⟨some (a2,b2),cR,cw⟩) /\
   ((e2=false/\e=false/\s'=⟨some (a2,b2),cR,cw⟩)\/(e2=true/\∃ (a3 b3:Nat) (F4:Z Slot) (Ff:Z Change),jD d f ⟨some (a2,b2),cR,cw⟩ [enc r,enc g]=some (.bool e,⟨some (a3,b3),F4,Ff⟩)/\s'=⟨some (a3,b3),F4,Ff⟩)))):=by
 simp only[Ko,aA]at h;obtain⟨q1,M,h⟩:=h;obtain⟨e1,a1,b1,cY,mR,rfl⟩:=FO M
 cases e1 with
 |false=>cases h;exact⟨rfl,false,_,_,_,_,M,.inl ⟨rfl,rfl,rfl⟩⟩
 | true =>
   simp only[aA]at h;obtain⟨q2,O,h⟩:=h;obtain⟨e2,a2,b2,cR,cw,rfl⟩:=FO O
   cases e2 with
   |false=>cases h;exact⟨rfl,true,_,_,_,_,M,.inr ⟨rfl,false,_,_,_,_,O,.inl ⟨rfl,rfl,rfl⟩⟩⟩
   | true =>
     simp only[aA]at h;obtain⟨q3,h3,h⟩:=h;obtain⟨e3,a3,b3,F4,Ff,rfl⟩:=UN h3;cases h;exact⟨rfl,true,_,_,_,_,M,.inr ⟨rfl,true,_,_,_,_,O,.inr ⟨rfl,_,_,_,_,h3,rfl⟩⟩⟩
def FE{e:Bool}(h:Ko d f g (none,s)=some (kA,e,s')):kA=[]/\e=false/\s'=s:=by
 cases h;exact⟨rfl,rfl,rfl⟩
def yu{args:Z V}(h:iE d f ⟨none,sl,tr⟩ args=some q):∃ (x y:G) (r:Bool),q=(.tuple [enc x,enc y,.bool r],⟨none,sl,tr⟩):=by
 obtain⟨x,w,rfl,hw,hl,hh⟩:=rR h;rcases hh with⟨hk,rfl⟩|⟨hk,a0,b0,a1,b1,a2,b2,a3,b3,cY,cR,F4,mR,cw,Ff,v,u,r,Bm,M,O,h3,rfl⟩
 . exact⟨_,_,_,rfl⟩
 . cases Bm
def AR(hz:s.z=none->s.sl=[]/\s.tr=[]/\l=[]):(s=⟨none,[],[]⟩/\l=[])\/∃ a b sl tr,s=⟨some (a,b),sl,tr⟩:=by
 obtain⟨_|⟨a,b⟩,sl,tr⟩:=s
 . obtain⟨rfl,rfl,rfl⟩:=hz rfl;exact .inl ⟨rfl,rfl⟩
 . exact .inr ⟨_,_,_,_,rfl⟩
section
variable {I:Nat->Value}(hρ:J.Good I)
include hρ
section
variable {E:Env}(U:E.P=Pg)(aq:bH I E)
include U aq
def Mf  (hF:E.dE 125=eY (C9 0 (iE d f)))
 {n:Nat} (hn:n+1<=1000)   {t0:G} {R:Y (Z G×G)×MS} (u9:k<=1000) (hR:uy d f k ⟨none,[],[]⟩ r0 []=some R)
 {sz:Nat} (b8:sz=62)   
 (hT:aw 1 T C (dW [(0,.ptr 0 0 0),(7,.ptr 2 0 0),(8,.aE),(9,.bool false),(10,.ptr 3 0 0),(11,oV 4 (([]:Z G).map au)),(29,.int .i64 (k:Int)),(30,.int .i64 ((0:Nat):Int))]) { H:=dW [(0,.arr (n+4) 0 [.sl (D.map aP) false::.aE::.aE::.own 1 0 0 1 none::jS 4 n] true false false),(1,.arr 5 0 [au t0] false false true),(2,box (au g)),(3,box (au r0))],n:=5,log:=[] })
 (DP:∀ (r:G) (acc:Z G),R=(some (acc,r),⟨none,[],[]⟩)->acc.length=k->Q (.exit 0) (dW [(0,.ptr 0 0 0),(7,.ptr 2 0 0),(10,.ptr 3 0 0),(11,oV 4 (acc.map au))]) { H:=dW ([(0,.arr (n+4) 0 [.sl (D.map aP) false::.aE::.aE::.own 1 0 0 1 none::jS 4 n] true false false),(1,.arr 5 0 [au t0] false false true),(2,box (au g)),(3,box (au r))]++oH 4 5 (acc.map au)),n:=5,log:=[] })
 (E1:R=(none,⟨none,[],[]⟩)->Q .ret (dW [(8,.aE),(9,.bool false)]) { H:=dW [(0,.arr (n+4) 0 [.sl (D.map aP) false::.aE::.aE::.own 1 0 0 1 none::jS 4 n] true false false),(1,.arr 5 0 [au t0] false false true)],n:=5,log:=[] }) :
 Ls I E 1 sz (.loop dD) T C Q:=by
 subst b8
 refine vC hρ U aq k (nn:=5) (λi (st:G×Z G)=>[(0,.ptr 0 0 0),(7,.ptr 2 0 0),(8,.aE),(9,.bool false),(10,.ptr 3 0 0),(11,oV 4 (st.2.map au)),(29,.int .i64 (k:Int)),(30,.int .i64 (i:Int))])
  (λi st=>[(0,.arr (n+4) 0 [.sl (D.map aP) false::.aE::.aE::.own 1 0 0 1 none::jS 4 n] true false false),(1,.arr 5 0 [au t0] false false true),(2,box (au g)),(3,box (au st.1))]++oH 4 5 (st.2.map au))
  (λi st=>st.2.length=i/\uy d f (k-i) ⟨none,[],[]⟩ st.1 st.2=some R) (r0,[]) (by simpa using hT) ⟨rfl,by simpa using hR⟩ ?_ ?_
 . rintro ⟨r,acc⟩ ⟨M,O⟩ K;simp only at M O;rw[lh,uy]at O;have cH:=DP r acc (bS O).symm M;cases r;cases g;cases t0
   cases acc with
   | nil =>
     simp[dD,U];exact bO.mk (aw.auto) cH
   | cons x acc =>
     simp[dD,U];exact bO.mk (aw.auto) cH
 . rintro i ⟨r,acc⟩ hi ⟨M,O⟩ K hK;simp only at M O;obtain⟨m,hm⟩:∃ m,k-i=m+1:=⟨k-i-1,by omega⟩;have jz:k-(i+1)=m:=by omega
   have cj:(i:Int)<k:=by omega
   have cy:=bI (i:=i);rw[hm,uy]at O;simp only[aA]at O;obtain⟨q,hq,O⟩:=O;obtain⟨av,bv,is,rfl⟩:=yu hq;obtain⟨xk,xn,xi,xh,xl⟩:=av;obtain⟨yk,yn,yi,yh,yl⟩:=bv;have k1:(acc.length+1)*64<=1048576:=by omega
   cases is with
   | true =>
     simp only[bo.bZ,bU]at O;have bc:=hK (.mk yk yn yi yh yl,acc++[.mk xk xn xi xh xl]) ⟨by simp[M],by rw[jz];exact O⟩;cases r;cases g;cases t0;simp at hq
     cases acc with
     | nil =>
       simp[dD,U,cj,hF,hn,hq,cy,aJ,-Int.natCast_add];exact bc _ _ (aw.auto)
     | cons x acc =>
       rw[aX]at k1;simp[dD,U,cj,hF,hn,hq,cy,k1,aY,aJ,-Int.natCast_add];exact bc _ _ (aw.auto)
   | false =>
     have cH:=E1 (bS O).symm;cases r;cases g;cases t0;simp at hq
     cases acc with
     | nil =>
       simp[dD,U,cj,hF,hn,hq,cy,aJ,-Int.natCast_add];exact bO.mk (aw.auto) cH
     | cons x acc =>
       simp[dD,U,cj,hF,hn,hq,cy,aJ,-Int.natCast_add];exact bO.mk (aw.auto) cH
def zrw(I:Nat->Value)(E:Env)(n:MN)(D:Z Decl)(c:Scheme)(k:Nat)(g:G)(s:MS)(l acc:Z G)(e:Bool)(s2:MS)(l2:Z G):Prop :=
 Wp I E (Kr s.z l) 62 ou.1 ((((PT.leaf.set 0 (.ptr 0 0 0)).set 1 (enc c)).set 2 (.int .i64 (k:Int))).set 3 (enc g)) { H:=dW (uC n D s l),n:=Kr s.z l,log:=[] } (J.Leaves E.P Tryz.f81 λv C=>aH (Kr s.z l) (.tuple [.sl (acc.map au) false,.bool e]) (uC n D s2 l2) v C\/vZ (Kr s.z l) (.tuple [.sl (acc.map au) false,.bool e]) (uC n D s2 l2) v C)
section
variable (hO:E.dE 165=eY (C9 0 Ea))(hF:E.dE 125=eY (C9 0 (iE d f)))(hB:E.dE 166=eY (C9 0 (yE d f)))(hQ:E.dE 167=eY (C9 0 (jD d f)))
 {n:MN} (BJ:n.n<=900)     {s2:MS} {acc:Z G} {e:Bool} {R:Y (Z G×G)×MS} (hk:k<=1000)
include hO hF hB hQ BJ hk
def RD (US:s.z=none->s.sl=[]/\s.tr=[]/\l=[]) (hl:l.length<=10000) {a1 b1 a2 b2:Nat} {cY cR:Z Slot} 
 (M:Ea s [enc c]=some (enc r0,⟨some (a1,b1),cY,mR⟩)) (O:uy d f k ⟨some (a1,b1),cY,mR⟩ r0 []=some R) (h3:Ko d f g R=some (acc,e,⟨some (a2,b2),cR,cw⟩)) :
 zrw I E n D c k g s l acc e ⟨some (a2,b2),cR,cw⟩ (l++[r0]):=by
 obtain⟨n,hn⟩:=n;simp only at BJ;have lb:n+1<=1000:=by omega
 have hz:ofConst (Value.agg #[.int .i64 0,.string {data:=#[]},.int .i64 0,.int .i64 0,.slice none 0 0])=some (V.agg [.int .i64 0,.str [],.int .i64 0,.int .i64 0,.aE]):=by rfl
 obtain⟨ls,ts,hls⟩:∃ ls ts,l++[r0]=ts::ls:=by cases l<;>exact⟨_,_,rfl⟩
 rw[hls];replace hls:=hls.symm;have Zm:∀ m:Nat,(V.int .i64 ((m:Int)+1)).nat?=some (m+1):=λ_=>rfl
 have r1:(l.length+1)*64<=1048576:=by omega
 obtain⟨gk,gn,gi,gh,gl⟩:=g;simp only[zrw];rcases AR US with⟨rfl,rfl⟩|⟨a,b,sl,tr,rfl⟩
 any_goals rcases l with _|⟨⟨tk,tn,ti,th,tl⟩,l⟩
 all_goals
  simp at M r1 hls;obtain⟨RC,els⟩:=hls;simp[U,hO,hn,lb,M,hz,r1,Zm,aY,aJ];refine NP hρ U aq hF lb (D:=D) (ls:=ls) (ts:=ts) (g:=.mk gk gn gi gh gl) hk (by decide) O rfl (aw.auto (hH:=by simp[RC,els]) (hi:=by simp[RC,els]) (hk:=by simp[RC,els]<;>(intro x hx;first|omega|exact⟨.inl hx,by omega⟩))) ?_ ?_
  . intro a b sl tr r zyA hR hlen;subst hR;obtain⟨rfl,e1,a1,b1,cY,mR,q1,hh⟩:=Dm h3;cases r;simp at q1;rcases hh with⟨rfl,rfl,C⟩|⟨rfl,e2,a2,b2,cR,cw,q2,⟨rfl,rfl,C⟩|⟨rfl,a3,b3,F4,Ff,q3,C⟩⟩
    any_goals simp at q2
    any_goals simp at q3
    all_goals
     cases C;cases acc
    all_goals first|simp[U,hB,hQ,hn,lb,q1,q2,q3,aJ]|simp[U,hB,hQ,hn,lb,q1,q2,aJ]|simp[U,hB,hQ,hn,lb,q1,aJ]
    all_goals first|(refine .inl (aH.bw (hn:=?_) (hv:=?_) (hH:=?_))<;>simp;done)|(refine .inr (vZ.bw (dt:=?_) (hH:=?_))<;>simp[kP,pC];done)
  . intro a b sl tr hR;subst hR;obtain⟨rfl,rfl,C⟩:=FE h3;cases C;simp[U];exact .inl (aH.bw)
def RB(M:Ea ⟨none,[],[]⟩ [enc c]=some (enc r0,⟨none,[],[]⟩))(O:uy d f k ⟨none,[],[]⟩ r0 []=some R)(h3:Ko d f g R=some (acc,e,s2)) :
 zrw I E n D c k g ⟨none,[],[]⟩ [] acc e s2 [r0]:=by
 obtain⟨n,hn⟩:=n;simp only at BJ;have lb:n+1<=1000:=by omega
 have hz:ofConst (Value.agg #[.int .i64 0,.string {data:=#[]},.int .i64 0,.int .i64 0,.slice none 0 0])=some (V.agg [.int .i64 0,.str [],.int .i64 0,.int .i64 0,.aE]):=by rfl
 obtain⟨zNm,zNk,zNn,zNo,zNl⟩:=r0;obtain⟨gk,gn,gi,gh,gl⟩:=g;simp only[zrw];simp at M;simp[U,hO,hn,lb,M,hz,aJ];refine Mf hρ U aq hF lb (D:=D) (t0:=.mk zNm zNk zNn zNo zNl) (g:=.mk gk gn gi gh gl) hk O rfl (aw.auto) ?_ ?_
 . intro r zyA hR hlen;subst hR;obtain⟨rfl,e1,a1,b1,cY,mR,q1,hh⟩:=Dm h3;simp at q1;rcases hh with⟨rfl,rfl,C⟩|⟨rfl,e2,a2,b2,cR,cw,q2,⟨rfl,rfl,C⟩|⟨rfl,a3,b3,F4,Ff,q3,C⟩⟩
   any_goals simp at q2
   any_goals simp at q3
   all_goals
    cases C;cases acc
   all_goals first|simp[U,hB,hQ,hn,lb,q1,q2,q3,aJ]|simp[U,hB,hQ,hn,lb,q1,q2,aJ]|simp[U,hB,hQ,hn,lb,q1,aJ]
   all_goals first|(refine .inl (aH.zFg rfl ?_ ?_ ?_ ?_)<;>simp;done)|(refine .inr (vZ.auto (dt:=?_) (hH:=?_) (hi:=?_) (hk:=?_))<;>simp[kP,pC];done)
 . intro hR;subst hR;obtain⟨rfl,rfl,C⟩:=FE h3;cases C;simp[U];exact .inl (aH.bw)
end
end
end
end Go.Proofs.YtfloillkpbhhhaaGreat
