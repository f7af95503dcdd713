import Derived.Test.YtfloillkpbhhhaaGreatJK10
import Derived.Test.YtfloillkpbhhhaaGreatJK8
import Derived.Test.YtfloillkpbhhhaaGreatJK7
import Derived.Test.YtfloillkpbhhhaaGreatJK9
set_option linter.all false
noncomputable section
set_option maxRecDepth 100000
set_option maxHeartbeats 4000000
namespace Go.J
open bo (enc)
def zgF{sn:Z Int}:(Obj.mp (sn.map vB)).ns=true:=by
 show ((sn.map vB).all λp=>p.1.ns&&p.2.ns)=true;rw[aj];intro p hp;obtain⟨n,_,rfl⟩:=aI.1 hp;rfl
def Hw(sl:Z Slot)(tr:Z Change)(g:MG)(sn:Z Int):Z (Nat×Obj):=[(0,jm (.ptr 1 0 1)),(1,mB 2 4 sl tr g),(2,mS sl g),(3,.mp (sn.map vB)),(4,mT tr g)]
def zzV(args:Z V)(sl:Z Slot)(tr:Z Change)(g:MG)(ds:Z V)(sn DU:Z Int)(r:Bool)(a b c m d:Nat):nU where
 k:=5
 k':=5
 π:=λi=>[a,b,c,m,d].getD i 0
 OL:=Hw sl tr g sn
 cI:=Hw sl tr g DU
 dq:=.ptr 0 0 0::args++[.map 3]
 v0:=.bool r
 s:=1
 cs:=mC 2 4 sl tr g
 s5:=mC 2 4 sl tr g
 ds:=ds
def A5 (F:Z Slot->Int->Z Int->G->Y (Bool×Z Int)) (vs:Z V) (C:HS):Y nU:=match vs with
 | [.ptr a 0 0,tv,.int .i64 h,.map m]=>W (bo.dec tv:Y G) λty=>W (C.H.get a) λoa=>W (du oa) λva=>W (IL 1 va) λb=>W (C.H.get b) λo=>W (Rt o) λq=>W (C1 C q.2.1) λs=>W (C0 C q.2.2.1) λt =>
  W (C.H.get m) λom=>W (V7 om) λes=>W (xS es) λsn=>W (F s.2.2 h sn ty) λr =>
  gd (et (cd [a,b,s.1,m,t.1]) ([a,b,s.1,m,t.1].all λx=>Nat.blt x C.n))
   (some (zzV [tv,.int .i64 h] s.2.2 t.2.2 ⟨s.2.1,t.2.1,q.2.2.2.1.length,q.2.2.2.2⟩ (q.1::q.2.1::q.2.2.1::q.2.2.2.1) sn r.2 r.1 a b s.1 m t.1))
 |_=>none
def zg2{sl:Z Slot}{tr:Z Change}{g:MG}{sn:Z Int}:∀ p∈Hw sl tr g sn,p.2.in (cr (Hw sl tr g sn))=true/\p.2.fz=false:=by
 intro p hp
 have hd:∀ i,i<5->cr (Hw sl tr g sn) i=true:=λi hi=>by
  rcases(show i=0\/i=1\/i=2\/i=3\/i=4 by omega)with rfl|rfl|rfl|rfl|rfl<;>rfl
 simp only[Hw,aB,aS,or_false]at hp;rcases hp with rfl|rfl|rfl|rfl|rfl
 . exact⟨rfl,rfl⟩
 . exact⟨zg9 (hd 2 (by omega)) (hd 4 (by omega)),rfl⟩
 . exact⟨Qr,rfl⟩
 . exact⟨rfl,rfl⟩
 . exact⟨Qq,rfl⟩
def zg1{sl:Z Slot}{tr:Z Change}{g:MG}{sn:Z Int}:∀ p∈Hw sl tr g sn,p.1≠1->p.2.ns=true:=by
 intro p hp cb;simp only[Hw,aB,aS,or_false]at hp;rcases hp with rfl|rfl|rfl|rfl|rfl
 . rfl
 . exact absurd rfl cb
 . exact Uj
 . exact zgF
 . exact Ui
theorem zg3 {F:Z Slot->Int->Z Int->G->Y (Bool×Z Int)} {vs:Z V} {C:HS} {D:nU} (hh:A5 F vs C=some D) :
 ∃ ty h sl tr g sn r ds a b c m d,F sl h sn ty=some r/\D=zzV [enc ty,.int .i64 h] sl tr g ds sn r.2 r.1 a b c m d/\D.Good/\D.Fits vs C:=by
 unfold A5 at hh;split at hh
 . rename_i a tv h m;simp only[aA,bE,dx]at hh;obtain⟨ty,hty,oa,HJ,va,Kx,b,hb,o,ho,q,hq,s,cm,t,ht,om,zAa,es,gA,sn,la,r,hr,⟨M,O⟩,hh⟩:=hh;cases hh;have e0:=bo.bq _ _ hty;have e1:=uD Kx;have e2:=JS hb;obtain⟨e3,AM⟩:=Ng hq;obtain⟨e4,g4⟩:=MR cm;obtain⟨e5,g5⟩:=MH ht;have e6:=Uc gA;have e7:=Lu la;obtain⟨c,ga,sl⟩:=s;obtain⟨d,gb,tr⟩:=t;obtain⟨x,y,z,post,dg⟩:=q;simp only[dI]at e4 e5 g4 g5 M O hr e3 AM ⊢;subst e4 e5 e2 e1 e3 e0 e7 e6;refine⟨ty,h,sl,tr,⟨ga,gb,post.length,dg⟩,sn,r,_,a,b,c,m,d,hr,rfl,⟨rfl,rfl,af _,λp hp=>(zg2 p hp).1,zg2,rfl,λv hv=>?_,?_,?_,LM,LM,Uk,Uk,Y8 rfl,zg1,zg1,rfl,λv hv=>?_⟩,?_⟩
   . have hv:v∈[V.ptr 0 0 0,enc ty,.int .i64 h,.map 3]:=hv;simp only[aB,aS,or_false]at hv;rcases hv with rfl|rfl|rfl|rfl
     . rfl
     . simp_all
     . rfl
     . rfl
   . exact aF _ (aD ..)
   . exact aF _ (aD ..)
   . have hv:v∈[V.ptr 0 0 0,enc ty,.int .i64 h,.map 3]:=hv;simp only[aB,aS,or_false]at hv;rcases hv with rfl|rfl|rfl|rfl
     . rfl
     . exact zB2 ty
     . rfl
     . rfl
   . refine nU.J3 [a,b,c,m,d] rfl rfl M O ?_ ?_ rfl ?_ AM
     . show [V.ptr 0 0 0,enc ty,.int .i64 h,.map 3].map (V.cq _)=_;rw[aR,aR,V.jw (V.dU (zV ty))];rfl
     . intro p hp;simp only[zzV,Hw,aB,aS,or_false]at hp;rcases hp with rfl|rfl|rfl|rfl|rfl
       . exact HJ
       . show C.H.get b=_;rw[ho];exact congrArg some (Ce (s:=1) (i:=2) (j:=4) (π:=λi=>[a,b,c,m,d].getD i 0) (sl:=sl) (tr:=tr) (g:=⟨ga,gb,post.length,dg⟩) rfl).symm
       . show C.H.get c=_;rw[g4];exact congrArg some (rZ (sl:=sl) (g:=⟨ga,gb,post.length,dg⟩) (π:=λi=>[a,b,c,m,d].getD i 0)).symm
       . exact zAa
       . show C.H.get d=_;rw[g5];exact congrArg some (rY (tr:=tr) (g:=⟨ga,gb,post.length,dg⟩) (π:=λi=>[a,b,c,m,d].getD i 0)).symm
     . show post.length+3<=1000000;omega
 . cases hh
section
variable {F:Z Slot->Int->Z Int->G->Y (Bool×Z Int)}{args:Z V}{sl:Z Slot}{tr:Z Change}{g:MG}{ds post:Z V}{r:Bool}{a b c m d ga gb n:Nat}{hh:n<=1000}{C:HS}{sn DU:Z Int}{tv x y z:V}{h:Int}
@[simp] def zL1:A5 F [.ptr a 0 0,tv,.int .i64 h,.map m] C=W (bo.dec tv:Y G) fun ty=>W (C.H.get a) fun oa=>W (du oa) fun va=>W (IL 1 va) fun b=>W (C.H.get b) fun o=>W (Rt o) fun q=>W (C1 C q.2.1) fun s=>W (C0 C q.2.2.1) fun t =>
      W (C.H.get m) λom=>W (V7 om) λes=>W (xS es) λsn=>W (F s.2.2 h sn ty) λr =>
      gd (et (cd [a,b,s.1,m,t.1]) ([a,b,s.1,m,t.1].all λx=>Nat.blt x C.n))
       (some (zzV [tv,.int .i64 h] s.2.2 t.2.2 ⟨s.2.1,t.2.1,q.2.2.2.1.length,q.2.2.2.2⟩ (q.1::q.2.1::q.2.2.1::q.2.2.2.1) sn r.2 r.1 a b s.1 m t.1)):=(rfl)
@[simp] def zGC:(zzV args sl tr g ds sn DU r a b c m d).vl C=.bool r:=(rfl)
@[simp] def zDq (hn:post.length=n):(zzV args sl tr ⟨ga,gb,n,hh⟩ (x::y::z::post) sn DU r a b c m d).hp C={ H:=((((C.H.set d (.arr 10 gb (tr.map bW) false false true)).set m (.mp (DU.map vB))).set c (.arr 8 ga (sl.map dG) false false true)).set b (.arr (n+3) 0 [x::.own c ga 0 sl.length none::.own d gb 0 tr.length none::post] true false false)).set a (jm (.ptr b 0 1)),n:=C.n,log:=a::b::c::m::d::C.log }:=by
  show ({ H:=((((C.H.set d ((mT tr ⟨ga,gb,n,hh⟩).cq _)).set m _).set c ((mS sl ⟨ga,gb,n,hh⟩).cq _)).set b (mI 1 (x::y::z::post) _ (1,mB 2 4 sl tr ⟨ga,gb,n,hh⟩))).set a _,n:=C.n+0,log:=_ }:HS)=_;rw[rZ,rY,Ce hn];rfl
end
def pW(sl:Z Slot)(tr:Z Change)(g:MG)(sn:Z Int)(h:Int):Z (Nat×Obj):=[(0,jm (.ptr 1 0 1)),(1,mB 2 7 sl tr g),(2,mS sl g),(3,.mp (sn.map vB)),(4,jm (.ptr 0 0 0)),(5,jm (.int .i64 h)),(6,jm (.map 3)),(7,mT tr g)]
def R0(x:V)(f:Y Nat)(sl:Z Slot)(tr:Z Change)(g:MG)(ds:Z V)(sn DU:Z Int)(h:Int)(r:V)(a b c m p q w d:Nat):nU where
 k:=8
 k':=8
 π:=λi=>[a,b,c,m,p,q,w,d].getD i 0
 OL:=pW sl tr g sn h
 cI:=pW sl tr g DU h
 dq:=x::C2 f [.ptr 4 0 0,.ptr 5 0 0,.ptr 6 0 0]
 v0:=r
 s:=1
 cs:=mC 2 7 sl tr g
 s5:=mC 2 7 sl tr g
 ds:=ds
def Cl (f:Y Nat) (F:Z Slot->Int->Z Int->V->Y (V×Z Int)) (vs:Z V) (C:HS):Y nU:=match vs with
 | x :: cl=>W (NR f cl) fun l=>W (zm7 l) fun k=>W (C.H.get k.1) fun op=>W (du op) fun vp=>W (WW vp) fun a=>W (C.H.get k.2.1) fun oq=>W (du oq) fun vq=>W (intOf vq) fun h=>W (C.H.get k.2.2) fun ow=>W (du ow) fun vw=>W (nq vw) fun m =>
     W (C.H.get a) λoa=>W (du oa) λva=>W (IL 1 va) λb=>W (C.H.get b) λo=>W (Rt o) λq=>W (C1 C q.2.1) λs=>W (C0 C q.2.2.1) λt =>
     W (C.H.get m) λom=>W (V7 om) λes=>W (xS es) λsn=>W (F s.2.2 h sn x) λr =>
     gd (et (cd [a,b,s.1,m,k.1,k.2.1,k.2.2,t.1]) (et ([a,b,s.1,m,k.1,k.2.1,k.2.2,t.1].all λx=>Nat.blt x C.n) (et x.pure (et x.ns (et r.1.pure r.1.ns)))))
      (some (R0 x f s.2.2 t.2.2 ⟨s.2.1,t.2.1,q.2.2.2.1.length,q.2.2.2.2⟩ (q.1::q.2.1::q.2.2.1::q.2.2.2.1) sn r.2 h r.1 a b s.1 m k.1 k.2.1 k.2.2 t.1))
 |_=>none
theorem zg7{sl:Z Slot}{tr:Z Change}{g:MG}{sn:Z Int}{h:Int}:∀ p∈pW sl tr g sn h,p.2.in (cr (pW sl tr g sn h))=true/\p.2.fz=false:=by
 intro p hp
 have hd:∀ i,i=2\/i=7->cr (pW sl tr g sn h) i=true:=λi hi=>by
  rcases hi with rfl|rfl<;>rfl
 simp only[pW,aB,aS,or_false]at hp;rcases hp with rfl|rfl|rfl|rfl|rfl|rfl|rfl|rfl
 . exact⟨rfl,rfl⟩
 . exact⟨zg9 (hd 2 (.inl rfl)) (hd 7 (.inr rfl)),rfl⟩
 . exact⟨Qr,rfl⟩
 . simp_all
 . exact⟨rfl,rfl⟩
 . exact⟨rfl,rfl⟩
 . exact⟨rfl,rfl⟩
 . exact⟨Qq,rfl⟩
def zg6{sl:Z Slot}{tr:Z Change}{g:MG}{sn:Z Int}{h:Int}:∀ p∈pW sl tr g sn h,p.1≠1->p.2.ns=true:=by
 intro p hp cb;simp only[pW,aB,aS,or_false]at hp;rcases hp with rfl|rfl|rfl|rfl|rfl|rfl|rfl|rfl
 . rfl
 . omega
 . exact Uj
 . exact zgF
 . rfl
 . rfl
 . rfl
 . exact Ui
def Y3 {f:Y Nat} {F:Z Slot->Int->Z Int->V->Y (V×Z Int)} {vs:Z V} {C:HS} {D:nU} (hh:Cl f F vs C=some D) :
 ∃ x h sl tr g sn r ds a b c m p q w d,F sl h sn x=some r/\D=R0 x f sl tr g ds sn r.2 h r.1 a b c m p q w d/\x.pure=true/\r.1.pure=true/\D.Good/\D.Fits vs C:=by
 unfold Cl at hh;split at hh
 . rename_i x cl;simp only[aA,bE,dx]at hh;obtain⟨l,hl,k,hk,op,mc,vp,hvp,a,ha,oq,hoq,vq,zNJ,h,zN3,ow,how,vw,hvw,m,hm,oa,HJ,va,Kx,b,hb,o,ho,q,hq,s,cm,t,ht,om,zAa,es,gA,sn,la,r,hr,⟨M,O,h3,h4,h5,h6⟩,hh⟩:=hh;cases hh;have e1:=uD Kx;have e2:=JS hb;obtain⟨e3,e17⟩:=Ng hq;obtain⟨e4,g4⟩:=MR cm;obtain⟨e5,g5⟩:=MH ht;have e6:=Uc gA;have e7:=Lu la;have e8:=uD hvp;have e9:=zja ha;have AM:=uD zNJ;have Z3:=zjO zN3;have e12:=uD hvw;have e13:=W9 hm;have e14:=zm6 hk;have e15:=XU hl;obtain⟨c,ga,sl⟩:=s;obtain⟨d,gb,tr⟩:=t;obtain⟨yy,y,z,post,dg⟩:=q;obtain⟨p,q,w⟩:=k;simp only[dI]at e4 e5 g4 g5 M O hr e14 mc hoq how e3 e17 ⊢;subst e4 e5 e2 e1 e3 e7 e6 e9 e8 Z3 AM e13 e12 e14 e15;refine⟨x,h,sl,tr,⟨ga,gb,post.length,dg⟩,sn,r,_,a,b,c,m,p,q,w,d,hr,rfl,h3,h5,⟨rfl,rfl,af _,λp hp=>(zg7 p hp).1,zg7,V.dU h5,λv hv=>?_,?_,?_,LM,LM,Uk,Uk,Y8 rfl,zg6,zg6,h6,λv hv=>?_⟩,?_⟩
   . rcases aB.1 hv with rfl|hv
     . exact V.dU h3
     . cases f with
       | none =>
         simp only[zbs,aB,aS,or_false]at hv;rcases hv with rfl|rfl|rfl<;>rfl
       | some f =>
         simp only[zbr,aB,aS,or_false]at hv;rcases hv with rfl;rfl
   . exact aF _ (aD ..)
   . exact aF _ (aD ..)
   . rcases aB.1 hv with rfl|hv
     . exact h4
     . cases f with
       | none =>
         simp only[zbs,aB,aS,or_false]at hv;rcases hv with rfl|rfl|rfl<;>rfl
       | some f =>
         simp only[zbr,aB,aS,or_false]at hv;rcases hv with rfl;rfl
   . refine nU.J3 [a,b,c,m,p,q,w,d] rfl rfl M O ?_ ?_ rfl ?_ e17
     . show (x::C2 f [.ptr 4 0 0,.ptr 5 0 0,.ptr 6 0 0]).map (V.cq _)=_;rw[aR,V.jw (V.dU h3)];cases f<;>rfl
     . intro u hu;simp only[R0,pW,aB,aS,or_false]at hu;rcases hu with rfl|rfl|rfl|rfl|rfl|rfl|rfl|rfl
       . exact HJ
       . show C.H.get b=_;rw[ho];exact congrArg some (Ce (s:=1) (i:=2) (j:=7) (π:=λi=>[a,b,c,m,p,q,w,d].getD i 0) (sl:=sl) (tr:=tr) (g:=⟨ga,gb,post.length,dg⟩) rfl).symm
       . show C.H.get c=_;rw[g4];exact congrArg some (rZ (sl:=sl) (g:=⟨ga,gb,post.length,dg⟩) (π:=λi=>[a,b,c,m,p,q,w,d].getD i 0)).symm
       . exact zAa
       . exact mc
       . exact hoq
       . exact how
       . show C.H.get d=_;rw[g5];exact congrArg some (rY (tr:=tr) (g:=⟨ga,gb,post.length,dg⟩) (π:=λi=>[a,b,c,m,p,q,w,d].getD i 0)).symm
     . show post.length+3<=1000000;omega
 . cases hh
section
variable {f:Y Nat}{F:Z Slot->Int->Z Int->V->Y (V×Z Int)}{cl:Z V}{sl:Z Slot}{tr:Z Change}{g:MG}{ds post:Z V}{r x u y z:V}{a b c m p q w d ga gb n:Nat}{hh:n<=1000}{C:HS}{sn DU:Z Int}{h:Int}
@[simp] def zL2:Cl f F (x::cl) C=W (NR f cl) fun l=>W (zm7 l) fun k=>W (C.H.get k.1) fun op=>W (du op) fun vp=>W (WW vp) fun a=>W (C.H.get k.2.1) fun oq=>W (du oq) fun vq=>W (intOf vq) fun h=>W (C.H.get k.2.2) fun ow=>W (du ow) fun vw=>W (nq vw) fun m =>
      W (C.H.get a) λoa=>W (du oa) λva=>W (IL 1 va) λb=>W (C.H.get b) λo=>W (Rt o) λq=>W (C1 C q.2.1) λs=>W (C0 C q.2.2.1) λt =>
      W (C.H.get m) λom=>W (V7 om) λes=>W (xS es) λsn=>W (F s.2.2 h sn x) λr =>
      gd (et (cd [a,b,s.1,m,k.1,k.2.1,k.2.2,t.1]) (et ([a,b,s.1,m,k.1,k.2.1,k.2.2,t.1].all λx=>Nat.blt x C.n) (et x.pure (et x.ns (et r.1.pure r.1.ns)))))
       (some (R0 x f s.2.2 t.2.2 ⟨s.2.1,t.2.1,q.2.2.2.1.length,q.2.2.2.2⟩ (q.1::q.2.1::q.2.2.1::q.2.2.2.1) sn r.2 h r.1 a b s.1 m k.1 k.2.1 k.2.2 t.1)):=(rfl)
@[simp] def zDu {e:Bool}:(R0 x f sl tr g ds sn DU h (.bool e) a b c m p q w d).vl C=.bool e:=(rfl)
@[simp] def zDt {e:Int}:(R0 x f sl tr g ds sn DU h (.int .i64 e) a b c m p q w d).vl C=.int .i64 e:=(rfl)
@[simp] def zDv (hn:post.length=n):(R0 x f sl tr ⟨ga,gb,n,hh⟩ (u::y::z::post) sn DU h r a b c m p q w d).hp C={ H:=(((((((C.H.set d (.arr 10 gb (tr.map bW) false false true)).set w (jm (.map m))).set q (jm (.int .i64 h))).set p (jm (.ptr a 0 0))).set m (.mp (DU.map vB))).set c (.arr 8 ga (sl.map dG) false false true)).set b (.arr (n+3) 0 [u::.own c ga 0 sl.length none::.own d gb 0 tr.length none::post] true false false)).set a (jm (.ptr b 0 1)),n:=C.n,log:=a::b::c::m::p::q::w::d::C.log }:=by
  show ({ H:=(((((((C.H.set d ((mT tr ⟨ga,gb,n,hh⟩).cq _)).set w _).set q _).set p _).set m _).set c ((mS sl ⟨ga,gb,n,hh⟩).cq _)).set b (mI 1 (u::y::z::post) _ (1,mB 2 7 sl tr ⟨ga,gb,n,hh⟩))).set a _,n:=C.n+0,log:=_ }:HS)=_;rw[rZ,rY,Ce hn];rfl
end
def YZ(sl:Z Slot)(tr:Z Change)(g:MG):Z (Nat×Obj):=[(0,mS sl g),(1,mT tr g)]
def zDl(args:Z V)(sl:Z Slot)(tr:Z Change)(g:MG)(r:V)(c d:Nat):EmbD where
 k:=2
 k':=2
 π:=λi=>[c,d].getD i 0
 OL:=YZ sl tr g
 cI:=YZ sl tr g
 dq:=.agg [.own 0 g.a 0 sl.length none,.own 1 g.b 0 tr.length none]::args
 v0:=r
def E2 (F:ao->Z V->Y V) (vs:Z V) (C:HS):Y EmbD:=match vs with
 |.agg [x,y]::args=>W (C1 C x) λs=>W (C0 C y) λt=>W (F ⟨s.2.2,t.2.2⟩ args) λr =>
  gd (et (cd [s.1,t.1]) (et ([s.1,t.1].all λx=>Nat.blt x C.n) (et (cu args) (et r.pure (ig C C.n)))))
   (some (zDl args s.2.2 t.2.2 ⟨s.2.1,t.2.1,0,aW _⟩ r s.1 t.1))
 |_=>none
def zgX{sl:Z Slot}{tr:Z Change}{g:MG}:∀ p∈YZ sl tr g,p.2.in (cr (YZ sl tr g))=true/\p.2.fz=false:=by
 intro p hp;simp only[YZ,aB,aS,or_false]at hp;rcases hp with rfl|rfl
 . exact⟨Qr,rfl⟩
 . exact⟨Qq,rfl⟩
theorem zr4 {F:ao->Z V->Y V} {vs:Z V} {C:HS} {D:EmbD} (h:E2 F vs C=some D) :
 ∃ args sl tr g r c d,F ⟨sl,tr⟩ args=some r/\D=zDl args sl tr g r c d/\cu args=true/\r.pure=true/\D.Good/\D.Fits vs C:=by
 unfold E2 at h;split at h
 . rename_i x y args;simp only[aA,bE,dx,aJ]at h;obtain⟨s,cm,t,ht,r,hr,⟨M,O,h3,h4,h5⟩,h⟩:=h;cases h;obtain⟨e4,g4⟩:=MR cm;obtain⟨e5,g5⟩:=MH ht;obtain⟨c,ga,sl⟩:=s;obtain⟨d,gb,tr⟩:=t;simp only at e4 e5 g4 g5 M O hr h4;subst e4 e5;refine⟨args,sl,tr,⟨ga,gb,0,aW _⟩,r,c,d,hr,rfl,h3,h4,⟨rfl,rfl,af _,λp hp=>(zgX p hp).1,zgX,V.dU h4,λv hv=>?_⟩,?_⟩
   . rcases aB.1 hv with rfl|hv
     . rfl
     . exact V.dU (jM h3 v hv)
   . refine EmbD.J3 [c,d] rfl rfl M O ?_ ?_ (mF _) h5
     . show (V.agg [.own 0 ga 0 sl.length none,.own 1 gb 0 tr.length none]::args).map (V.cq _)=_;rw[aR,M3 h3];rfl
     simp_all [zDl,YZ,aB,aS,rZ,aW,rY]
 . cases h
@[simp] def zLY {F:ao→Z V→Y V} {x y:V} {args:Z V} {C:HS}:E2 F (.agg [x,y]::args) C=W (C1 C x) fun s=>W (C0 C y) fun t=>W (F ⟨s.2.2,t.2.2⟩ args) fun r =>
      gd (et (cd [s.1,t.1]) (et ([s.1,t.1].all λx=>Nat.blt x C.n) (et (cu args) (et r.pure (ig C C.n)))))
       (some (zDl args s.2.2 t.2.2 ⟨s.2.1,t.2.1,0,aW _⟩ r s.1 t.1)):=(rfl)
@[simp] def zJd {args:Z V} {sl:Z Slot} {tr:Z Change} {g:MG} {r:V} {c d:Nat}:(zDl args sl tr g r c d).v0=r:=(rfl)
end Go.J
set_option maxHeartbeats 1000000
namespace Go.J
open bo (enc)
def mN(n:Nat):Obj:=.arr (n+3) 0 [.sym 0::.aE::.aE::jS 3 n] true false false
def zDy(n:Nat):Z V:=.sym 0::.aE::.aE::jS 3 n
@[simp] def zNz {n:Nat}:mN n=.arr (n+3) 0 [.sym 0::.aE::.aE::jS 3 n] true false false:=(rfl)
theorem zg8{s n:Nat}{d x y:V}{post:Z V}{π:Nat->Nat}(hn:post.length=n):mI s (d::x::y::post) π (s,mN n)=.arr (n+3) 0 [d::.aE::.aE::post] true false false:=by
 show (if s=s then Obj.arr (n+3) 0 [d::.aE::.aE::mix π (jS 3 n) post] true false false else _)=_
 grind [Il]
structure MN where
 n:Nat
 h:n<=1000
structure MS where
 z:Option (Nat×Nat)
 sl:List Slot
 tr:List Change
def uq(n:MN)(s:MS):Z (Nat×Obj):=match s.z with
 |none=>[(0,mN n.n)]
 |some (a,b)=>[(0,mB 1 2 s.sl s.tr ⟨a,b,n.n,n.h⟩),(1,mS s.sl ⟨a,b,n.n,n.h⟩),(2,mT s.tr ⟨a,b,n.n,n.h⟩)]
def IT(n:MN)(s:MS):Z V:=match s.z with
 |none=>zDy n.n
 |some (a,b)=>mC 1 2 s.sl s.tr ⟨a,b,n.n,n.h⟩
def WZ(z:Y (Nat×Nat)):Nat:=match z with
 |none=>1
 |some _=>3
def I0(z:Y (Nat×Nat))(c d:Nat):Z Nat:=match z with
 |none=>[]
 |some _=>[c,d]
section
variable {n:MN}{m a b c d:Nat}{hm:m<=1000}{sl:Z Slot}{tr:Z Change}{s:MS}
@[simp] def zzS:uq ⟨m,hm⟩ ⟨none,sl,tr⟩=[(0,mN m)]:=(rfl)
@[simp] def zzR:uq ⟨m,hm⟩ ⟨some (a,b),sl,tr⟩=[(0,mB 1 2 sl tr ⟨a,b,m,hm⟩),(1,mS sl ⟨a,b,m,hm⟩),(2,mT tr ⟨a,b,m,hm⟩)]:=(rfl)
@[simp] def zDb:WZ none=1:=(rfl)
@[simp] def zDa {p:Nat×Nat}:WZ (some p)=3:=(rfl)
@[simp] def zDd:I0 none c d=[]:=(rfl)
@[simp] def zDc {p:Nat×Nat}:I0 (some p) c d=[c,d]:=(rfl)
def zw1:wm 0 (zDy m)=true:=by
 simp only[zDy,wm,MO,V.ns,Bool.or_true,fM];rfl
def zgU:(IT n s).length=n.n+3:=by
 obtain⟨z,sl,tr⟩:=s
 cases z with
 |none=>simp[IT,zDy]
 |some p=>exact LM
def znv:wm 0 (IT n s)=true:=by
 obtain⟨z,sl,tr⟩:=s
 cases z with
 |none=>exact zw1
 |some p=>exact Uk
theorem znu{s':MS}(k:Nat)(h:(IT n s')[k]?=some (.sym k)):(IT n s)[k]?=some (.sym k):=by
 grind [IT,jS,zDy,mC]
def zbK:(uq n s).map Prod.fst=List.range (WZ s.z):=by
 obtain⟨z,sl,tr⟩:=s;cases z<;>rfl
def zDx{A:Nat->Bool}:(mN m).in A=true:=by
 simp[jS,aj,Yv]
def zgS:∀ p∈uq n s,p.2.in (cr (uq n s))=true/\p.2.fz=false:=by
 intro p hp;obtain⟨z,sl,tr⟩:=s
 cases z with
 | none =>
   simp only[uq,aB,aS,or_false]at hp;subst hp;exact⟨zDx,rfl⟩
 | some q =>
   obtain⟨a,b⟩:=q
   have hd:∀ i,i=1\/i=2->cr (uq n ⟨some (a,b),sl,tr⟩) i=true:=λi hi=>by
    rcases hi with rfl|rfl<;>rfl
   simp only[uq,aB,aS,or_false]at hp;rcases hp with rfl|rfl|rfl
   . exact⟨zg9 (hd 1 (.inl rfl)) (hd 2 (.inr rfl)),rfl⟩
   . exact⟨Qr,rfl⟩
   . exact⟨Qq,rfl⟩
theorem zgR:∀ p∈uq n s,p.1≠0->p.2.ns=true:=by
 grind [uq,Uj,Ui]
def zgT:(0,Obj.arr (n.n+3) 0 [IT n s] true false false)∈uq n s:=by
 obtain⟨z,sl,tr⟩:=s;cases z<;>exact aD ..
end
def CA(off:Nat)(args:Z V)(n:MN)(s s':MS)(ds:Z V)(r:V)(b c d:Nat):nU where
 k:=WZ s.z
 k':=WZ s'.z
 π:=λi=>(b::I0 s.z c d).getD i 0
 OL:=uq n s
 cI:=uq n s'
 dq:=.ptr 0 0 off::args
 v0:=r
 s:=0
 cs:=IT n s
 s5:=IT n s'
 ds:=ds
def HA (C:HS) (x y:V):Y (Nat×Nat×MS):=match x with
 | .aE=>(match y with
   |.aE=>some (0,0,⟨none,[],[]⟩)
   |_=>none)
 |x=>W (C1 C x) λs=>W (C0 C y) λt=>some (s.1,t.1,⟨some (s.2.1,t.2.1),s.2.2,t.2.2⟩)
@[simp] def zFQ {C:HS}:HA C .aE .aE=some (0,0,⟨none,[],[]⟩):=(rfl)
@[simp] def zFP {C:HS} {c g o n:Nat} {e:Y Nat} {y:V}:HA C (.own c g o n e) y=W (C1 C (.own c g o n e)) λs=>W (C0 C y) λt=>some (s.1,t.1,⟨some (s.2.1,t.2.1),s.2.2,t.2.2⟩):=(rfl)
theorem Yz{C:HS}{x y:V}{q:Nat×Nat×MS}(h:HA C x y=some q) :
 (x=.aE/\y=.aE/\q.2.2=⟨none,[],[]⟩)\/∃ a b,q.2.2.z=some (a,b)/\x=.own q.1 a 0 q.2.2.sl.length none/\y=.own q.2.1 b 0 q.2.2.tr.length none /\
   C.H.get q.1=some (.arr 8 a (q.2.2.sl.map dG) false false true)/\C.H.get q.2.1=some (.arr 10 b (q.2.2.tr.map bW) false false true):=by
 unfold HA at h;split at h
 . grind
 . simp only[aA]at h;obtain⟨s,cm,t,ht,h⟩:=h
   grind [MR,MH]
def C9 (off:Nat) (F:MS->Z V->Y (V×MS)) (vs:Z V) (C:HS):Y nU:=match vs with
 |.ptr b 0 o::args=>gd (Nat.beq o off) (W (C.H.get b) λIN=>W (Rt IN) λq=>W (HA C q.2.1 q.2.2.1) λs=>W (F s.2.2 args) λr =>
  gd (et (cd (b::I0 s.2.2.z s.1 s.2.1)) (et ((b::I0 s.2.2.z s.1 s.2.1).all λx=>Nat.blt x C.n) (et (cu args) (et (H7 args) (et (r.1.tJ λ_=>false) (et r.1.ns (et (Nat.ble (WZ s.2.2.z) (WZ r.2.z)) (et (ig C C.n) (ig C (C.n+1))))))))))
   (some (CA off args ⟨q.2.2.2.1.length,q.2.2.2.2⟩ s.2.2 r.2 (q.1::q.2.1::q.2.2.1::q.2.2.2.1) r.1 b s.1 s.2.1)))
 |_=>none
@[simp] def zLW {off o:Nat} {F:MS→Z V→Y (V×MS)} {b:Nat} {args:Z V} {C:HS}:C9 off F (.ptr b 0 o::args) C=gd (Nat.beq o off) (W (C.H.get b) fun IN=>W (Rt IN) fun q=>W (HA C q.2.1 q.2.2.1) fun s=>W (F s.2.2 args) fun r =>
      gd (et (cd (b::I0 s.2.2.z s.1 s.2.1)) (et ((b::I0 s.2.2.z s.1 s.2.1).all λx=>Nat.blt x C.n) (et (cu args) (et (H7 args) (et (r.1.tJ λ_=>false) (et r.1.ns (et (Nat.ble (WZ s.2.2.z) (WZ r.2.z)) (et (ig C C.n) (ig C (C.n+1))))))))))
       (some (CA off args ⟨q.2.2.2.1.length,q.2.2.2.2⟩ s.2.2 r.2 (q.1::q.2.1::q.2.2.1::q.2.2.2.1) r.1 b s.1 s.2.1))):=(rfl)
theorem Gh {off:Nat} {F:MS->Z V->Y (V×MS)} {vs:Z V} {C:HS} {D:nU} (h:C9 off F vs C=some D) :
 ∃ args n s s' r ds b c d,F s args=some (r,s')/\(s.z=none->s.sl=[]/\s.tr=[])/\D=CA off args n s s' ds r b c d/\cu args=true/\(r.tJ λ_=>false)=true/\D.Good/\D.Fits vs C:=by
 unfold C9 at h;split at h
 . rename_i b o args;simp only[aA,bE,dx,aJ,beq_true,gY,dI]at h;obtain⟨rfl,IN,ho,q,hq,s,cm,⟨r,s'⟩,hr,⟨M,O,h3,h4,h5,h6,h7,h8,h9⟩,h⟩:=h;cases h;obtain⟨e3,e7⟩:=Ng hq;have e8:=Yz cm;obtain⟨c,d,s⟩:=s;obtain⟨x,y,z,post,dg⟩:=q;simp only at e3 e7 e8 M O hr h7 h5 h6 ⊢;subst e3
   have hg:(CA o args ⟨post.length,dg⟩ s s' (x::y::z::post) r b c d).Good:=by
    refine⟨zbK,zbK,h7,λp hp=>(zgS p hp).1,zgS,V.AO (λ_ h=>by cases h) h5,?_,zgT,zgT,zgU,zgU,znv,znv,znu,zgR,zgR,h6,?_⟩
    . intro v hv;rcases aB.1 hv with rfl|hv
      . obtain⟨z,sl,tr⟩:=s;cases z<;>rfl
      . exact V.dU (jM h3 v hv)
    . intro v hv;rcases aB.1 hv with rfl|hv
      . rfl
      . exact wP h4 v hv
   have Ek:∀ d1∈x::y::z::post,d1.mM=true:=e7
   have US:s.z=none->s.sl=[]/\s.tr=[]:=by
    grind
   refine⟨args,⟨post.length,dg⟩,s,s',r,_,b,c,d,hr,US,rfl,h3,h5,hg,?_⟩
   have nh:WZ s.z=(b::I0 s.z c d).length:=by
    obtain⟨z,sl,tr⟩:=s;cases z<;>rfl
   refine⟨?_,λi j hi hj e=>?_,?_,λi hi=>?_,λi hi=>?_,?_,Ek⟩
   . show (V.ptr 0 0 o::args).map (V.cq _)=_;rw[aR,M3 h3];rfl
   . replace hi:i<WZ s.z:=hi;replace hj:j<WZ s.z:=hj;rw[nh]at hi hj;exact CZ M hi hj e
   . intro p hp;rcases e8 with⟨rfl,rfl,e8⟩|⟨ga,gb,e8,rfl,rfl,e9,AM⟩
     . grind [CA,uq,zg8]
     . obtain⟨zz,sl,tr⟩:=s;simp only at e8 e9 AM;subst e8;simp only[CA,uq,aB,aS,or_false]at hp;rcases hp with rfl|rfl|rfl
       . show C.H.get b=_;rw[ho];exact congrArg some (Ce (s:=0) (i:=1) (j:=2) (π:=λi=>[b,c,d].getD i 0) (sl:=sl) (tr:=tr) (g:=⟨ga,gb,post.length,dg⟩) rfl).symm
       . show C.H.get c=_;rw[e9];exact congrArg some (rZ (sl:=sl) (g:=⟨ga,gb,post.length,dg⟩) (π:=λi=>[b,c,d].getD i 0)).symm
       . show C.H.get d=_;rw[AM];exact congrArg some (rY (tr:=tr) (g:=⟨ga,gb,post.length,dg⟩) (π:=λi=>[b,c,d].getD i 0)).symm
   . have cj:i<WZ s'.z-WZ s.z:=hi
     have:i=0\/i=1:=by
      obtain⟨z',_,_⟩:=s';cases z'<;>cases hz:s.z<;>simp[hz]at cj<;>omega
     grind
   . replace hi:i<WZ s.z:=hi;rw[nh]at hi;show (b::I0 s.z c d).getD i 0<C.n
     grind [fS,gz,List.all_eq_true,List.getElem_mem]
   . show post.length+3<=1000000;omega
 . cases h
section
variable {off:Nat}{args:Z V}{N:MN}{n a b c d ga gb Bi Bh:Nat}{kc:n<=1000}{sl cS:Z Slot}{tr xI:Z Change}{x y z r:V}{post:Z V}{C:HS}{s s':MS}{ds:Z V}
@[simp] def zDf {e:Bool}:(CA off args N s s' ds (.bool e) b c d).vl C=.bool e:=(rfl)
@[simp] def zDe {e:Int}:(CA off args N s s' ds (.int .i64 e) b c d).vl C=.int .i64 e:=(rfl)
@[simp] def zwV (hn:post.length=n):(CA off args ⟨n,kc⟩ ⟨none,sl,tr⟩ ⟨none,cS,xI⟩ (x::y::z::post) r b c d).hp C={ H:=C.H.set b (.arr (n+3) 0 [x::.aE::.aE::post] true false false),n:=C.n,log:=b::C.log }:=by
  show ({ H:=C.H.set b (mI 0 (x::y::z::post) _ (0,mN n)),n:=C.n+0,log:=_ }:HS)=_;rw[zg8 hn];rfl
@[simp] def zwU (hn:post.length=n):(CA off args ⟨n,kc⟩ ⟨none,sl,tr⟩ ⟨some (Bi,Bh),cS,xI⟩ (x::y::z::post) r b c d).hp C={ H:=((C.H.set (C.n+1) (.arr 10 Bh (xI.map bW) false false true)).set C.n (.arr 8 Bi (cS.map dG) false false true)).set b (.arr (n+3) 0 [x::.own C.n Bi 0 cS.length none::.own (C.n+1) Bh 0 xI.length none::post] true false false),n:=C.n+2,log:=b::C.n::(C.n+1)::C.log }:=by
  show ({ H:=((C.H.set (C.n+1) ((mT xI ⟨Bi,Bh,n,kc⟩).cq _)).set (C.n+0) ((mS cS ⟨Bi,Bh,n,kc⟩).cq _)).set b (mI 0 (x::y::z::post) _ (0,mB 1 2 cS xI ⟨Bi,Bh,n,kc⟩)),n:=C.n+2,log:=_ }:HS)=_;rw[rZ,rY,Ce hn];rfl
@[simp] def zwT (hn:post.length=n):(CA off args ⟨n,kc⟩ ⟨some (ga,gb),sl,tr⟩ ⟨some (Bi,Bh),cS,xI⟩ (x::y::z::post) r b c d).hp C={ H:=((C.H.set d (.arr 10 Bh (xI.map bW) false false true)).set c (.arr 8 Bi (cS.map dG) false false true)).set b (.arr (n+3) 0 [x::.own c Bi 0 cS.length none::.own d Bh 0 xI.length none::post] true false false),n:=C.n,log:=b::c::d::C.log }:=by
  show ({ H:=((C.H.set d ((mT xI ⟨Bi,Bh,n,kc⟩).cq _)).set c ((mS cS ⟨Bi,Bh,n,kc⟩).cq _)).set b (mI 0 (x::y::z::post) _ (0,mB 1 2 cS xI ⟨Bi,Bh,n,kc⟩)),n:=C.n+0,log:=_ }:HS)=_;rw[rZ,rY,Ce hn];rfl
end
def Ue{v:V}:∀ {k n:Nat},v∈jS k n↔∃ j,(k<=j/\j<k+n)/\v=.sym j
 |k,0=>by simp[jS];omega
 | k,n+1=>by
   rw[jS,aB,Ue];constructor
   . rintro (rfl|⟨j,h,rfl⟩)
     . exact⟨k,by omega,rfl⟩
     . exact⟨j,by omega,rfl⟩
   . rintro ⟨j,h,rfl⟩;by_cases e:j=k
     . exact .inl (by rw[e])
     . exact .inr ⟨j,by omega,rfl⟩
section
variable {n:Nat}
@[simp] def zL0:2 % (n+3)=2:=vM (by omega)
@[simp] def zMx:1 / (n+3)=0:=vN (by omega)
@[simp] def zMw:2 / (n+3)=0:=vN (by omega)
@[simp] def zLZ:3 % (n+4)=3:=vM (by omega)
@[simp] def zMv:3 / (n+4)=0:=vN (by omega)
end
def jr{A:Nat->Bool}{k n:Nat}:∀ (x:V) (j:Nat),k<=j->j<k+n->x=V.sym j->V.zM A x=true:=by
 rintro _ _ _ _ rfl;rfl
@[simp] def znf {α:Type}:∀ {l:Z α} {n:Nat},kI l n []=l
  | [],_=>rfl
  |_::_,0=>rfl
  |x::l,n+1=>congrArg (x::·) (znf (l:=l) (n:=n))
section
variable {l:Z V}{v:V}{es:Z (Z V)}{t b:Bool}{k:IntKind}{n:Int}{s:Z Nat}{i g o m:Nat}{c:Y Nat}
@[simp] def zzK:H7 []=true:=(rfl)
@[simp] def zwG:H7 (v::l)=(v.ns&&H7 l):=(rfl)
@[simp] def zC4:(V.int k n).ns=true:=(rfl)
@[simp] def zzJ:(V.bool b).ns=true:=(rfl)
@[simp] def zC1:(V.str s).ns=true:=(rfl)
@[simp] def zzI:V.aE.ns=true:=(rfl)
@[simp] def zGt:(V.sl es t).ns=vR es:=(rfl)
@[simp] def zC5:(V.agg l).ns=H7 l:=(rfl)
@[simp] def zwF:(V.tuple l).ns=H7 l:=(rfl)
@[simp] def zC2:(V.ptr i g o).ns=true:=(rfl)
@[simp] def zC3:(V.own i g o m c).ns=true:=(rfl)
@[simp] def zwH:vR []=true:=(rfl)
@[simp] def zzL {l:Z G}:vR (l.map au)=true:=FH l
end
@[simp] def zvc {k n:Nat} {p:V->Prop}:(∀ x,x∈jS k n->p x)↔∀ j,k<=j->j<k+n->p (.sym j) :=
  ⟨λh j M O=>h _ (Ue.2 ⟨j,⟨M,O⟩,rfl⟩),λh x hx=>by
    obtain⟨j,⟨M,O⟩,rfl⟩:=Ue.1 hx
    exact h j M O⟩
@[simp] def zmo {π:Nat->Nat}:∀ {k n:Nat},(jS k n).map (V.jl π)=jS k n
  |_,0=>rfl
  |k,n+1=>by rw[jS,aR,zmo];rfl
@[simp] def zsr {k:Nat}:vr (.sym k)=none:=(rfl)
@[simp] def zm8 {i z:Nat}:∀ {k n:Nat} {l:Z V},CC (jS k n) l i z=z
  |_,0,_=>zrG
  |k,n+1,[]=>rfl
  | k,n+1,u::l=>by
    rw[jS,zm9,zm8,zww zsr]
@[simp] def MG.zME {g:MG} {m:Nat}:(g.add m).a=g.a:=(rfl)
@[simp] def MG.zMA {g:MG} {m:Nat}:(g.add m).b=g.b+m:=(rfl)
@[simp] def MG.zLV {g:MG} {m:Nat}:(g.add m).n=g.n:=(rfl)
@[simp] def zC6 {l:Z bQ}:vR (l.map cZ)=true:=Ca λe he=>by
  obtain⟨x,_,rfl⟩:=aI.1 he;simp[cZ]
section
variable {T:PT V}{C:HS}{k:Nat}
def aw.Zb (π:Nat->Nat) {TL:Z (Nat×V)} {HL:Z (Nat×Obj)} (n:Nat) (hT:∀ p∈TL,p.2.tJ (cr HL)=true/\T.get p.1=some (p.2.cq π))
 (hH:∀ p∈HL,p.2.in (cr HL)=true/\∃ u,C.H.get (π p.1)=some u/\(u=p.2.cq π\/TW u=p.2.cq π)) (hi:cd (HL.map λp=>π p.1)=true) (hk:(List.range k).all (λi=>Nat.beq (π i) i&&cr HL i)=true) :
 aw k T C (dW TL) { H:=dW HL,n:=n,log:=[] } where
 ex := by
  refine⟨π,cr HL,λid=>zgZ,λt v hv=>⟨(hT (t,v) (Ag hv)).1,_,(hT (t,v) (Ag hv)).2,.inl rfl⟩,λid o ho=>⟨(hH (id,o) (Ag ho)).1,(hH (id,o) (Ag ho)).2⟩,?_,λid hid=>?_⟩
  . intro i j ss qt e;have eN:=O1 hi
    have key:∀ (l:Z (Nat×Obj)),(l.map λp=>π p.1).Nodup->cr l i=true->cr l j=true->i=j:=by
     intro l
     induction l with
     |nil=>intro _ h;cases h
     | cons p l ih =>
       intro eN M O;rw[aR,iH]at eN;replace M:(Nat.beq p.1 i||cr l i)=true:=M;replace O:(Nat.beq p.1 j||cr l j)=true:=O;rw[iJ,beq_true]at M O
       have hm:∀ a,cr l a=true->π a∈l.map λp=>π p.1:=by
        intro a ha;obtain⟨q,hq,zJN⟩:=di.1 ha;exact aI.2 ⟨q,hq,by rw[beq_true.1 zJN]⟩
       rcases M with M|M<;>rcases O with O|O
       . rw[<- M,<- O]
       . exact absurd (by rw[M,e];exact hm j O) eN.1
       . exact absurd (by rw[O,<- e];exact hm i M) eN.1
       . exact ih eN.2 M O
    exact key HL eN ss qt
  . have:=aj.1 hk id (dB.2 hid);rw[aQ,beq_true]at this;exact this
def aH.Zb(π:Nat->Nat){v v1:V}{OL:Z (Nat×Obj)}(hi:cd (OL.map λp=>π p.1)=true)(hk:(List.range k).all (λi=>Nat.beq (π i) i&&cr OL i)=true)(hv:v1.tJ (cr OL)=true/\v=v1.cq π)
 (hH:∀ p∈OL,p.2.in (cr OL)=true/\∃ u,C.H.get (π p.1)=some u/\(u=p.2.cq π\/TW u=p.2.cq π)):aH k v1 OL v C :=
 ⟨v1,.inl rfl,aw.Zb π 0 (λp hp=>by
   simp only[ay]at hp;subst hp
   exact⟨hv.1,by rw[PT.cK,if_pos rfl,hv.2]⟩) hH hi hk⟩
end
@[simp] def zzN {s g:Nat} {es:Z (Z V)} {x z r:Bool}:TW (.arr s g es x z r)=.arr s g (es.map fI) x z r:=(rfl)
@[simp] def zDg {off:Nat} {args:Z V} {N:MN} {s s':MS} {ds:Z V} {l:Z V} {b c d:Nat} {C:HS} (h:Jy l=true):(CA off args N s s' ds (.agg l) b c d).vl C=.agg l:=V.jw (V.dU (show (V.agg l).pure=true from h))
@[simp] def Qo {e:Z V} {l:Z (Z V)}:vR (e::l)=(H7 e&&vR l):=(rfl)
@[simp] def zzT {off:Nat} {args:Z V} {N:MN} {s s':MS} {ds:Z V} {l m:Z V} {e:Bool} {b c d:Nat} {C:HS} (h:Jy l=true) (h':Jy m=true):(CA off args N s s' ds (.tuple [.agg l,.agg m,.bool e]) b c d).vl C=.tuple [.agg l,.agg m,.bool e]:=by
  have M:∀ π:Nat->Nat,(V.agg l).jl π=.agg l:=λπ=>V.uN (V.dU (show (V.agg l).pure=true from h))
  have O:∀ π:Nat->Nat,(V.agg m).jl π=.agg m:=λπ=>V.uN (V.dU (show (V.agg m).pure=true from h'))
  show V.tuple [(V.agg l).jl _,(V.agg m).jl _,(V.bool e).jl _]=_;rw[M,O];rfl
def DH(sz:Nat)(s:Z V->Y (Z (Z V))):Spec:=λvs C=>W (lT C vs) λjt=>gd (cu jt) (W (s (fI jt)) λes=>gd (es.all λe=>e.all V.Iy) (some (.sl es false,C)))
section
variable {I:Nat->Value}{P:Program}{f:Nat}{sz:Nat}{s:Z V->Y (Z (Z V))}
def zbh{v:V}(h:v.Iy=true):v.bM=true:=by
 cases v<;>first|rfl|cases h
def Valid.DH (hf:wh P f) (b8:sz≠0) (h:∀ vs es,cu vs=true->s vs=some es->(es.all λe=>e.all V.bM)=true->∀ C:HS,C.H.get C.n=none->aT I P f vs C (oV C.n es) (bi (Nat.beq (dA es) 0) C { H:=C.H.set C.n (oO sz es),n:=C.n+1,log:=C.n::C.log })):Valid I P f (DH sz s) where
 fn:=hf
 ok := by
  intro vs C v a8 hq;simp only[J.DH,bE,aA]at hq;obtain⟨jt,eC,hp,es,hv,hsc,hq⟩:=hq;cases hq;intro X w F μ xs hR hD hO hA;obtain⟨hlen,b6⟩:=JO hR (F':=λb=>b<w.heap.size) hR.Bj eC (λ_ _ _ _ id g off len cap _ m hm=>hR.lt id g m hm)
  have m8:Mq I w (λb=>b<w.heap.size) (λ_ _=>none) jt xs:=⟨hA.1.trans hlen.symm,λi u hi=>by
   obtain⟨u0,hu0,hr⟩:=b6 i u hi;obtain⟨x,hx,xa⟩:=hA.2 i u0 hu0
   exact⟨x,hx,.pure (hr x xa)⟩⟩
  have hsc2:∀ e∈es,∀ v∈e,v.Iy=true:=λe he v hv=>aj.1 (aj.1 hsc e he) v hv
  have vA:(es.all λe=>e.all V.bM)=true:=aj.2 λe he=>aj.2 λv hv=>zbh (hsc2 e he v hv)
  have hc:=(h _ _ (Cm hp) hv vA ji rfl).norm hp;refine(hc _ w _ (λ_ _=>none) xs (R.empty (λ_ h=>h) (hR.gl.bw hR.Bj λ_ _=>rfl)) Ol.empty (pj.no _) m8).mono λe w' he=>?_
  cases e with
  | returned x =>
    obtain⟨F1,μ1,g1,g2,g3⟩:=he;have iS:∀ b,b<w.heap.size->w'.heap[b]?=w.heap[b]?:=λb hb=>g3.bw b hb (ug b _)
    obtain⟨a1,a2⟩:=alone hR g3.io g3.size iS;refine⟨_,μ,a1,.pure ?_,a2⟩;clear a1 a2 iS
    cases es with
    | nil =>
      have g2:dV I w' F1 μ1 .aE x:=g2
      cases g2 with
      |pure g2=>cases g2;exact .po _ _ _ (λ_=>rfl)
    | cons e es =>
      have g2:dV I w' F1 μ1 (.own 0 es.length 0 (es.length+1) none) x:=by
       have e0:oV ji.n (e::es)=.own 0 es.length 0 (es.length+1) none:=by simp[ji]
       rw[e0]at g2;exact g2
      have hb0:Nat.beq (dA (e::es)) 0=false:=by simp
      rw[hb0]at g1 g3;replace g1:R I w' F1 μ1 P { H:=ji.H.set ji.n (oO sz (e::es)),n:=ji.n+1,log:=ji.n::ji.log }:=g1
      have zJI:still { H:=ji.H.set ji.n (oO sz (e::es)),n:=ji.n+1,log:=ji.n::ji.log } (.own 0 es.length 0 (es.length+1) none)=some (.sl (e::es) false):=by
       simp[still,zgP,ji,b8]
      have zEq:=OD g1 g2 zJI (F':=λ_=>True) (λ_ _=>trivial) (λ_ _ _ _=>trivial)
      cases g2 with
      |pure g2=>cases g2
      | own _ _ _ _ _ c m hm M O h3 h4 =>
        have hb:w.heap.size<=m.b:=by
         rcases g3.mn _ _ _ hm with h|⟨_,_,_,h,_⟩
         . exact h
         . cases h
        have pZ:=g1.lt _ _ _ hm
        cases zEq with
        | qe _ _ _ size _ _ ys q1 q2 q3 q4 q5 q6 =>
          exact .qe (e::es) m.b 0 size c false ys (.inr ⟨hb,pZ⟩) q2 q3 (λi e' j v he hv=>by
           exact JR (μ:=μ1) (.pure (q4 i e' j v he hv)) (hsc2 _ (aC he) _ (aC hv))) q5 q6
  |panicked c=>exact he
  |outgrown=>exact he
 kept:=by
  intro vs C q hq;simp only[J.DH,bE,aA]at hq;obtain⟨_,_,_,_,_,_,hq⟩:=hq;cases hq;exact .refl _
variable {vs:Z V}{C:HS}{K:V×HS->Prop}
@[simp] def zKt:Cu (DH sz s vs C) K=Cu (lT C vs) λjt=>cu jt=true/\Cu (s (fI jt)) λes=>(es.all λe=>e.all V.Iy)=true/\K (.sl es false,C):=by
  show ok (DH sz s vs C) K=ok (lT C vs) λjt=>cu jt=true/\ok (s (fI jt)) λes=>(es.all λe=>e.all V.Iy)=true/\K (.sl es false,C)
  simp only[DH,wz,iQ,dP]
end
end Go.J
set_option maxRecDepth 100000
namespace Go.J
open bo (enc)
namespace ao
section
variable {n S:Nat}
def zas{s:ao}(h:xK n S s)(hS:1<=S)(hn:n*S+S<=90000)(tw:n<=1000){t:G}(ht:ic n S t):tO s [t]:=by
 have M:=h.ia hS (List.replicate s.a9.length false);have O:=ht.size;exact⟨h.ll tw,G.lD.2 (by simp[ht.ok]),by simp,by simp only[G.bj];omega⟩
def u1(w:G->G):Z G->Nat
 | []=>0
 |x::l=>sz w x 200+u1 w l
def zv5{w:G->G}{l m:Z G}(h:B7 w l m):u1 w l<=G.bj m:=by
 induction h with
 |nil=>exact af _
 | cons hx _ ih =>
   rw[u1,RZ hx,G.bj];omega
def zmh{w:G->G}{a:G}(h:sz w a 200<=200):u1 w (w a).args+1<=sz w a 200:=by
 obtain⟨r,hr,At⟩:=zgs.1 h;obtain⟨m,M,O⟩:=Z0.1 hr;have h3:=zv5 M;have h4:=G.size_eq r;have h5:r.args=m:=by rw[O];rfl
 rw[h5]at h4;rw[RZ hr];omega
end
end ao
end Go.J
set_option maxRecDepth 100000
namespace Go.J
open bo (enc)
variable {C:HS}{i:Int}{B d g:Nat}{π:Nat->Nat}{t:Tp}{α:Type}{cU:Z (Z V)}{D:Z Decl}{a b o:Z Int}{n:Z Nat}{vs:Z V}
namespace ao
theorem zeX(s:ao)(a b:G):∃ m,kB s (s.je a b).2.2 m:=by
 unfold je;split
 . exact⟨0,.refl _ _⟩
 split
 . exact⟨0,.refl _ _⟩
 split
 . grind [Xj,FC]
 split
 . grind [FC]
 split
 . exact⟨0,.refl _ _⟩
 . exact⟨0,.refl _ _⟩
def Ja (d:Nat):∀ (f:Nat) {s:ao} {l:Z bQ} {r:ao×Int},jq d f s l=some r->∃ m,kB s r.1 m:=by
 intro f
 induction f with
 |zero=>intro s l r h;cases h
 | succ f ih =>
   intro s l r h
   cases l with
   |nil=>rw[jq]at h;cases h;exact⟨0,.refl _ _⟩
   | cons e l =>
     rw[jq]at h;split at h
     . obtain⟨m,hm⟩:=zeX s e.left e.right;split at h
       . obtain⟨m2,jz⟩:=ih h;exact⟨_,hm.trans jz⟩
       . cases h;exact⟨m,hm⟩
     . cases h
end ao
def Bq(es:Z (Z V))(sz:Nat)(tg:Bool):EmbD where
 k:=0
 k':=1
 π:=λi=>i
 OL:=[]
 cI:=[(0,.arr sz 0 es false false true)]
 dq:=[.sl es tg]
 v0:=.own 0 0 0 es.length none
def Me(sz:Nat)(vs:Z V)(C:HS):Y EmbD:=match vs with
 | [.sl es tg]=>gd (et (nt (Nat.beq (dA es) 0)) (et (Nat.ble (dA es) 1000) (et (es.all λe=>et (Nat.beq (dA e) sz) (e.all V.bM)) (et (kS es) (ig C C.n))))) (some (Bq es sz tg))
 |_=>none
def Vb{sz:Nat}{D:EmbD}(h:Me sz vs C=some D):∃ es tg,es≠[]/\es.length<=1000/\(∀ e∈es,e.length=sz/\e.all V.bM=true)/\kS es=true/\D=Bq es sz tg/\D.Good/\D.Fits vs C:=by
 unfold Me at h;split at h
 . rename_i es tg;simp only[bE,dx,jN,beq_false,gY,dI,aJ]at h;obtain⟨⟨M,O,h3,h6,h4⟩,h⟩:=h;cases h
   have h5:∀ e∈es,e.length=sz/\e.all V.bM=true:=λe he=>by
    have:=aj.1 h3 e he;simp only[dx,beq_true,dI]at this;exact this
   refine⟨es,tg,λe=>M (by rw[e];rfl),O,h5,h6,rfl,⟨rfl,rfl,aW _,(λp hp=>by cases hp),λp hp=>?_,rfl,λv hv=>?_⟩,rfl,λi j hi=>?_,(λp hp=>by cases hp),λi hi=>?_,λi hi=>?_⟩
   . simp only[Bq,ay]at hp;subst hp;exact⟨aj.2 λe he=>(h5 e he).2,rfl⟩
   . simp only[Bq,ay]at hv;subst hv;rfl
   . simp only[Bq]at hi;omega
   . simp only[Bq]at hi;have:i=0:=by omega
     subst this;exact h4
   . simp only[Bq]at hi;omega
 . cases h
section
variable {es:Z (Z V)}{sz:Nat}{tg:Bool}
@[simp] def zxY:(Bq es sz tg).val C=.own C.n 0 0 es.length none:=(rfl)
def QS(h:∀ e∈es,e.all V.bM=true):(Bq es sz tg).heap C={ H:=C.H.set C.n (.arr sz 0 es false false true),n:=C.n+1,log:=C.n::C.log }:=by
 have e1:(es.map λe=>e.map (V.jl (news C.n 0 λi=>i)))=es:=Cc λe he v hv=>V.jP (aj.1 (h e he) v hv)
 show ({ H:=C.H.set (news C.n 0 (λi=>i) 0) (.arr sz 0 (es.map λe=>e.map (V.jl (news C.n 0 λi=>i))) false false true),n:=C.n+1,log:=[news C.n 0 (λi=>i) 0]++C.log }:HS)=_;rw[e1];rfl
@[simp] def zEY:Me sz [.sl es tg] C=gd (et (nt (Nat.beq (dA es) 0)) (et (Nat.ble (dA es) 1000) (et (es.all λe=>et (Nat.beq (dA e) sz) (e.all V.bM)) (et (kS es) (ig C C.n))))) (some (Bq es sz tg)):=(rfl)
end
def gU(f:α->Bool):Z α->Int->Int
 | [],_=>-1
 |x::l,i=>if f x=true then i else gU f l (i+1)
def Ah(f:α->Bool):∀ (l:Z α) (i:Int),0<=i->decide (0<=gU f l i)=l.any f:=by
 intro l
 induction l with
 |nil=>intro i h;simp[gU]
 | cons y l ih =>
   intro i h;rw[gU];split
   . rename_i e;simp[e,h]
   . rename_i e;rw[ih (i+1) (by omega)];simp[e]
def Ap(n:Z Nat):Xp:=.mk 1 0 n 0 [] [] tT
def Q8(n:Z Nat):Xp:=.mk 2 0 n 0 [] [] tT
def VN(n:Z Nat)(b:Xp):Xp:=.mk 4 0 n 0 [b] [] tT
def VO(f a:Xp):Xp:=.mk 5 0 [] 0 [f,a] [] tT
def y8(e:Xp)(l:Z Am):Xp:=.mk 8 0 [] 0 [e] l tT
def Sj(j:Nat):Z Nat:=([[115],[116],[117],[118]][j % 4]?).getD []
def kE(n:Nat):Z (Z Nat):=(List.range n).map Sj
def ZR(n:Nat):kE (n+1)=kE n++[Sj n]:=by simp[kE,List.range_succ]
@[simp] def AX (n:Nat):(kE n).length=n:=by simp[kE]
def mJ(z:α)(l:Z α)(i:Int):α:=(l[i.toNat]?).getD z
def zt:Decl:=⟨0,[],[],[]⟩
def Jm:Ctor:=⟨0,[],[]⟩
mutual
def gJ:Nat->Tp->Z Decl->Z (Z Nat)->Tp×Xp
 | 0,t,D,N=>zo 0 (t.next 8).1 D N
 | d + 1,t,D,N =>
   let k:=(t.next 8).2
   let t1:=(t.next 8).1
   if k<2 then
    let r:=gJ d t1 D (N++[[119]])
    (r.1,VN [119] r.2)
   else if k=2/\D≠[]/\N≠[]then
    let a:=t1.next D.length
    let dd:=mJ zt D a.2
    let b:=a.1.next N.length
    let r:=kz d b.1 D N dd.ctors dd.ctors.length
    (r.1,y8 (Ap (mJ [] N b.2)) r.2)
   else zo (d+1) t1 D N
 termination_by d=>(d,2,0)
def kz (d:Nat) (t:Tp) (D:Z Decl) (N:Z (Z Nat)) (cs:Z Ctor):Nat->Tp×Z Am
 | 0=>(t,[])
 | i+1 =>
   let p:=kz d t D N cs i
   let c:=(cs[i]?).getD Jm
   let r:=gJ d p.1 D (N++kE c.fields.length)
   (r.1,p.2++[.mk 0 c.name (kE c.fields.length) r.2])
 termination_by i=>(d,3,i)
def zo (d:Nat) (t:Tp) (D:Z Decl) (N:Z (Z Nat)):Tp×Xp :=
 let p:=if N≠[]then ((t.next N.length).1,Ap (mJ [] N (t.next N.length).2))else (t,Ap [120])
 let q := if D≠[]then
     (if (p.1.next 2).2=0 then
       let a:=(p.1.next 2).1.next D.length
       let dd:=mJ zt D a.2
       let b:=a.1.next dd.ctors.length
       (b.1,Q8 (mJ Jm dd.ctors b.2).name)
     else ((p.1.next 2).1,p.2))
  else p
 match d with
 | 0=>((q.1.next 3).1,q.2)
 |d+1=>mQ d (q.1.next 3).1 D N q.2 (q.1.next 3).2.toNat
 termination_by (d,1,0)
def mQ (d:Nat) (t:Tp) (D:Z Decl) (N:Z (Z Nat)) (e:Xp):Nat->Tp×Xp
 | 0=>(t,e)
 | i+1 =>
   let p:=mQ d t D N e i
   let r:=gJ d p.1 D N
   (r.1,VO p.2 r.2)
 termination_by i=>(d,3,i)
end
def MT(D:Z Decl):Prop:=PC D/\∀ d∈D,d.ctors≠[]/\d.ctors.length<=100/\∀ c∈d.ctors,c.fields.length<=100
def Jk(bits:Int):MT (bu bits):=by
 refine⟨zff bits,λd hd=>?_⟩;have key:∀ d∈Kw,d.ctors≠[]/\d.ctors.length<=100/\∀ c∈d.ctors,c.fields.length<=100:=by decide
 exact key d (ky hd)
section
theorem Vq(ih:∀ (t:Tp) (N:Z (Z Nat)),t.ok->(gJ d t D N).1.ok)(h:t.ok)(N:Z (Z Nat))(cs:Z Ctor)(i:Nat):(kz d t D N cs i).1.ok/\(kz d t D N cs i).2.length=i:=by
 induction i with
 |zero=>rw[kz];exact⟨h,rfl⟩
 | succ i Mp =>
   grind [kz]
theorem zc2(ih:∀ (t:Tp) (N:Z (Z Nat)),t.ok->(gJ d t D N).1.ok)(h:t.ok)(N:Z (Z Nat))(e:Xp)(i:Nat):(mQ d t D N e i).1.ok:=by
 induction i with
 |zero=>rw[mQ];exact h
 |succ i Mp=>rw[mQ];exact ih _ _ Mp
theorem zb7(ih:∀ d',d=d'+1->∀ (t:Tp) (N:Z (Z Nat)),t.ok->(gJ d' t D N).1.ok)(h:t.ok)(N:Z (Z Nat)):(zo d t D N).1.ok:=by
 rw[zo.eq_def]
 grind [Ap,mJ,iw,zt,Q8,Jm,zc2]
theorem SV:∀ (d:Nat) (t:Tp) (N:Z (Z Nat)),t.ok->(gJ d t D N).1.ok:=by
 intro d
 induction d with
 | zero =>
   grind [gJ,zb7,iw]
 | succ d ih =>
   grind [gJ,iw,Vq,zb7]
end
mutual
def Xp.depth:Xp->Nat
 |.mk _ _ _ _ ks as _=>1+max (Xp.qC ks) (Am.qC as)
def Xp.qC:Z Xp->Nat
 | []=>0
 |x::l=>max x.depth (Xp.qC l)
def Am.qC:Z Am->Nat
 | []=>0
 |.mk _ _ _ b::l=>max b.depth (Am.qC l)
end
mutual
def Xp.wide(B:Nat):Xp->Bool
 |.mk _ _ _ _ ks as _=>decide (ks.length<=B)&&decide (as.length<=B)&&Xp.sF B ks&&Am.sF B as
def Xp.sF(B:Nat):Z Xp->Bool
 | []=>true
 |x::l=>x.wide B&&Xp.sF B l
def Am.sF(B:Nat):Z Am->Bool
 | []=>true
 |.mk _ _ _ b::l=>b.wide B&&Am.sF B l
end
def Xp.nE(x:Xp):x.depth=1+max (Xp.qC x.kids) (Am.qC x.cf):=by cases x;rw[Xp.depth];rfl
def Xp.JK(B:Nat)(x:Xp):x.wide B=(decide (x.kids.length<=B)&&decide (x.cf.length<=B)&&Xp.sF B x.kids&&Am.sF B x.cf):=by cases x;rw[Xp.wide];rfl
def Xp.L6{l:Z Xp}{x:Xp}(h:x∈l):x.depth<=Xp.qC l:=by
 induction l with
 |nil=>cases h
 | cons y l ih =>
   rw[Xp.qC];rcases aB.1 h with rfl|h
   . exact iG _ _
   . exact aO (ih h) (jL _ _)
def Am.L6{l:Z Am}{a:Am}(h:a∈l):a.body.depth<=Am.qC l:=by
 induction l with
 |nil=>cases h
 | cons y l ih =>
   cases y;rw[Am.qC];rcases aB.1 h with rfl|h
   . exact iG _ _
   . exact aO (ih h) (jL _ _)
def Xp.Ot{l:Z Xp}(hl:Xp.sF B l=true){x:Xp}(h:x∈l):x.wide B=true:=by
 induction l with
 |nil=>cases h
 | cons y l ih =>
   rw[Xp.sF,aQ]at hl;rcases aB.1 h with rfl|h
   . exact hl.1
   . exact ih hl.2 h
def Am.Ot{l:Z Am}(hl:Am.sF B l=true){a:Am}(h:a∈l):a.body.wide B=true:=by
 induction l with
 |nil=>cases h
 | cons y l ih =>
   cases y;rw[Am.sF,aQ]at hl;rcases aB.1 h with rfl|h
   . exact hl.1
   . exact ih hl.2 h
def Xp.rQ{x k:Xp}(h:k∈x.kids):k.depth<x.depth:=by
 have:=Xp.L6 h;rw[Xp.nE x];omega
def Xp.FP{x:Xp}{a:Am}(h:a∈x.cf):a.body.depth<x.depth:=by
 have:=Am.L6 h;rw[Xp.nE x];omega
def Xp.CF{x:Xp}(h:x.wide B=true):x.kids.length<=B/\x.cf.length<=B/\(∀ k∈x.kids,k.wide B=true)/\∀ a∈x.cf,a.body.wide B=true:=by
 rw[Xp.JK,aQ,aQ,aQ,decide_eq_true_eq,decide_eq_true_eq]at h;exact⟨h.1.1.1,h.1.1.2,λk hk=>Xp.Ot h.1.2 hk,λa ha=>Am.Ot h.2 ha⟩
def x0:Xp:=.mk 0 0 [] 0 [] [] tT
def Xp.isApp(x:Xp):Bool:=decide (x.kind=5)&&decide (x.kids.length=2)
def Xp.fn(x:Xp):Xp:=(x.kids[0]?).getD x0
def Xp.arg(x:Xp):Xp:=(x.kids[1]?).getD x0
def Xp.Fz{x:Xp}:x.isApp=true↔x.kind=5/\x.kids.length=2:=by simp[Xp.isApp]
def Xp.Vu{x:Xp}(h:x.isApp=true):x.kids=[x.fn,x.arg]:=by
 obtain⟨_,h⟩:=Xp.Fz.1 h;unfold Xp.fn Xp.arg;generalize x.kids=l at h ⊢
 match l,h with
 | [a,b],_=>rfl
def Xp.Pk{x:Xp}(h:x.isApp=true):x.fn∈x.kids:=by rw[Xp.Vu h];simp
def Xp.zhI{x:Xp}(h:x.isApp=true):x.arg∈x.kids:=by rw[Xp.Vu h];simp
def Bg:Nat->Xp->Xp×Z Xp
 | 0,e=>(e,[])
 |d+1,e=>if e.isApp=true then ((Bg d e.fn).1,(Bg d e.fn).2++[e.arg])else (e,[])
def dQ(e:Xp):Xp×Z Xp:=Bg e.depth e
def za2:∀ (d:Nat) (e:Xp),e.depth<=d->Bg d e=Bg (d+1) e:=by
 intro d
 induction d with
 |zero=>intro e h;rw[Xp.nE]at h;omega
 | succ d ih =>
   intro e h;by_cases ha:e.isApp=true
   . have:=Xp.rQ (Xp.Pk ha);rw[Bg,if_pos ha,Bg,if_pos ha,<- ih _ (by omega)]
   . rw[Bg,if_neg ha,Bg,if_neg ha]
def ziv{e:Xp}(h:e.depth<=d):Bg d e=dQ e:=by
 obtain⟨k,rfl⟩:=Nat.le.dest h
 induction k with
 |zero=>rfl
 |succ k ih=>rw[<- eD,<- za2 _ _ (by omega),ih (by omega)]
def CL{e:Xp}(h:e.isApp=true):dQ e=((dQ e.fn).1,(dQ e.fn).2++[e.arg]):=by
 have hd:=Xp.rQ (Xp.Pk h);obtain⟨d,lj⟩:∃ d,e.depth=d+1:=⟨e.depth-1,by omega⟩;rw[dQ,lj,Bg,if_pos h,ziv (by omega)]
def CK{e:Xp}(h:¬ e.isApp=true):dQ e=(e,[]):=by
 rw[dQ,Xp.nE,mZ,Bg,if_neg h]
def oN(e:Xp):(dQ e).1.depth<=e.depth/\(∀ a∈(dQ e).2,a.depth<e.depth)/\(dQ e).2.length<e.depth:=by
 generalize hd:e.depth=d
 induction d using Nat.strongRecOn generalizing e with
 | _ d ih =>
   by_cases h:e.isApp=true
   . have M:=Xp.rQ (Xp.Pk h);have O:=Xp.rQ (Xp.zhI h);obtain⟨i1,i2,i3⟩:=ih _ (by omega) e.fn rfl;rw[CL h];refine⟨by show (dQ e.fn).1.depth<=d;omega,λa ha=>?_,by simp;omega⟩;rcases bA.1 ha with ha|ha
     . have:=i2 a ha;omega
     . rw[ay]at ha;subst ha;omega
   . rw[CK h];have:=Xp.nE e;exact⟨by show e.depth<=d;omega,λa ha=>by simp at ha,by simp;omega⟩
def za3{e:Xp}(hw:e.wide B=true):(dQ e).1.wide B=true/\∀ a∈(dQ e).2,a.wide B=true:=by
 generalize hd:e.depth=d
 induction d using Nat.strongRecOn generalizing e with
 | _ d ih =>
   by_cases h:e.isApp=true
   . have M:=Xp.rQ (Xp.Pk h);have hp:=(Xp.CF hw).2.2.1;obtain⟨i1,i2⟩:=ih _ (by omega) (hp _ (Xp.Pk h)) rfl;rw[CL h];refine⟨i1,λa ha=>?_⟩;rcases bA.1 ha with ha|ha
     . exact i2 a ha
     . rw[ay]at ha;subst ha;exact hp _ (Xp.zhI h)
   . rw[CK h];exact⟨hw,λa ha=>by simp at ha⟩
mutual
def Xp.wf:Xp->Bool
 |.mk k _ _ _ ks as _=>(if k=5 then decide (ks.length=2)else if k=4\/k=8 then decide (ks.length=1)else true)&&Xp.w6 ks&&Am.w6 as
def Xp.w6:Z Xp->Bool
 | []=>true
 |x::l=>x.wf&&Xp.w6 l
def Am.w6:Z Am->Bool
 | []=>true
 |.mk _ _ _ b::l=>b.wf&&Am.w6 l
end
def Xp.zgd(x:Xp):x.wf=((if x.kind=5 then decide (x.kids.length=2)else if x.kind=4\/x.kind=8 then decide (x.kids.length=1)else true)&&Xp.w6 x.kids&&Am.w6 x.cf):=by cases x;rw[Xp.wf];rfl
def EF:Nat->Xp->Bool
 | 0,_=>false
 | d+1,e =>
   if e.kind=1\/e.kind=2 then true
   else if e.kind=4 then decide (e.kids.length=1)&&EF d e.fn
   else if e.kind=8 then decide (e.kids.length=1)&&decide (e.fn.kind=1)&&e.cf.all λa=>EF d a.body
   else if e.kind=5 then decide ((dQ e).1.kind=1\/(dQ e).1.kind=2)&&(dQ e).2.all (EF d)
   else false
def jk(e:Xp):Bool:=EF e.depth e
def GU{f g:α->Bool}{l:Z α}(h:∀ x∈l,f x=g x):l.all f=l.all g:=by
 induction l with
 |nil=>rfl
 |cons a l ih=>rw[iW,iW,h a aD,ih λx hx=>h x (aF _ hx)]
def Xp.zce{e:Xp}(h:e.kids≠[]):e.fn.depth<e.depth:=by
 refine Xp.rQ ?_;unfold Xp.fn
 cases hk:e.kids with
 |nil=>exact absurd hk h
 |cons a l=>simp
def zbb:∀ (d:Nat) (e:Xp),e.depth<=d->EF d e=EF (d+1) e:=by
 intro d
 induction d with
 |zero=>intro e h;rw[Xp.nE]at h;omega
 | succ d ih =>
   intro e h;rw[EF,EF];split
   . rfl
   . split
     . by_cases hk:e.kids.length=1
       . have:=Xp.zce (e:=e) (λh0=>by rw[h0]at hk;cases hk);rw[ih _ (by omega)]
       . simp[hk]
     . split
       . congr 1
         refine GU λa ha=>?_
         have:=Xp.FP ha;exact ih _ (by omega)
       . split
         . congr 1
           refine GU λa ha=>?_
           have:=(oN e).2.1 a ha;exact ih _ (by omega)
         . rfl
def OI{e:Xp}(h:e.depth<=d):EF d e=jk e:=by
 obtain⟨k,rfl⟩:=Nat.le.dest h
 induction k with
 |zero=>rfl
 |succ k ih=>rw[<- eD,<- zbb _ _ (by omega),ih (by omega)]
def JQ (e:Xp):jk e=if e.kind=1\/e.kind=2 then true
 else if e.kind=4 then decide (e.kids.length=1)&&jk e.fn
 else if e.kind=8 then decide (e.kids.length=1)&&decide (e.fn.kind=1)&&e.cf.all λa=>jk a.body
 else if e.kind=5 then decide ((dQ e).1.kind=1\/(dQ e).1.kind=2)&&(dQ e).2.all jk
 else false:=by
 obtain⟨d,hd⟩:∃ d,e.depth=d+1:=⟨e.depth-1,by have:=Xp.nE e;omega⟩;rw[jk,hd,EF];split
 . rfl
 . split
   . by_cases hk:e.kids.length=1
     . have:=Xp.zce (e:=e) (λh0=>by rw[h0]at hk;cases hk);rw[OI (by omega)]
     . simp[hk]
   . split
     . congr 1
       refine GU λa ha=>?_
       have:=Xp.FP ha;exact OI (by omega)
     . split
       . congr 1
         refine GU λa ha=>?_
         have:=(oN e).2.1 a ha;exact OI (by omega)
       . rfl
def Xp.zgO{e:Xp}(h:e.kids.length=1):e.kids=[e.fn]:=by
 unfold Xp.fn;generalize e.kids=l at h ⊢
 match l,h with
 | [a],_=>rfl
def zhK(f:α->Bool)(l:Z α):(l.any λx=>!f x)=!l.all f:=by
 induction l with
 |nil=>rfl
 |cons a l ih=>rw[qo,iW,ih,Bool.not_and]
def Vw{f g:α->Bool}{l:Z α}(h:∀ x∈l,f x=g x):l.any f=l.any g:=by
 induction l with
 |nil=>rfl
 |cons a l ih=>rw[qo,qo,h a aD,ih λx hx=>h x (aF _ hx)]
def Xp.fit(d:Nat)(e:Xp):Prop:=e.depth<=d/\e.depth<=1000/\e.wide 100000=true
instance (d:Nat)(e:Xp):Decidable (e.fit d):=inferInstanceAs (Decidable (_/\_/\_))
def Xp.fit.kid{e k:Xp}(h:e.fit (d+1))(hk:k∈e.kids):k.fit d:=by
 have:=Xp.rQ hk;exact⟨by have:=h.1;omega,by have:=h.2.1;omega,(Xp.CF h.2.2).2.2.1 k hk⟩
def Xp.fit.arm{e:Xp}{a:Am}(h:e.fit (d+1))(hk:a∈e.cf):a.body.fit d:=by
 have:=Xp.FP hk;exact⟨by have:=h.1;omega,by have:=h.2.1;omega,(Xp.CF h.2.2).2.2.2 a hk⟩
def Xp.fit.arg{d:Nat}{e a:Xp}(h:e.fit (d+1))(ha:a∈(dQ e).2):a.fit d:=by
 have:=(oN e).2.1 a ha;exact⟨by have:=h.1;omega,by have:=h.2.1;omega,(za3 h.2.2).2 a ha⟩
def Sd(e:Xp):Z Xp:=e.kids++e.cf.map Am.body
def Fc(n:Z Nat):Bool:=(G.mk 4 n 0 0 []).valid
def S7(e:Xp):Prop:=e.pos=0/\e.num=0/\e.type=tT /\
 ((e.kind=1/\j6 e.name=true/\e.kids=[]/\e.cf=[])\/(e.kind=2/\Fc e.name=true/\e.kids=[]/\e.cf=[]) \/
  (e.kind=4/\j6 e.name=true/\e.kids.length=1/\e.cf=[])\/(e.kind=5/\e.name=[]/\e.kids.length=2/\e.cf=[]) \/
  (e.kind=8/\e.name=[]/\e.kids.length=1/\e.cf≠[]/\e.cf.length<=100)) /\
 ∀ a∈e.cf,a.pos=0/\Fc a.dE=true/\a.vars.length<=4/\∀ v∈a.vars,j6 v=true
def XR{e x:Xp}(h:x∈Sd e):x.depth<e.depth:=by
 rcases bA.1 h with h|h
 . exact Xp.rQ h
 . obtain⟨a,ha,rfl⟩:=aI.1 h;exact Xp.FP ha
theorem SA{e:Xp}(h:S7 e):e.kids.length<=2/\e.cf.length<=100/\(e.kids=[]->e.cf=[]):=by
 obtain⟨_,_,_,h,_⟩:=h
 grind
def xe(x:Xp)(i:Nat):Z (Z Nat):=if x.kind=4\/x.kind=7 then [x.name]else if x.kind=6 then (if i=1 then [x.name]else [])else if x.kind=8/\x.kids.length<=i then ((x.cf[i-x.kids.length]?).map Am.vars).getD []else []
def N1(rec:Z (Z Nat)->Xp->Bool)(N:Z (Z Nat))(x:Xp):Nat->Z Xp->Bool
 |_,[]=>true
 |i,y::l=>rec (N++xe x i) y&&N1 rec N x (i+1) l
def Hu:Nat->Z (Z Nat)->Xp->Bool
 | 0,_,_=>true
 |n+1,N,x=>(if x.kind=1 then decide (x.name∈N)else true)&&N1 (Hu n) N x 0 (Sd x)
def zfz {x:Xp} (h:S7 x) (i:Nat):(xe x i).length<=4:=by
 unfold xe;split
 . simp
 . split
   . split<;>simp
   . split
     . cases ha:x.cf[i-x.kids.length]? with
       |none=>simp
       |some a=>exact(h.2.2.2.2 a (aC ha)).2.2.1
     . simp
def EP(b:Bool):V:=.agg [.int .i64 (if b then 0 else 9),.int .i64 0]
@[simp] def zvd:EP true=.agg [.int .i64 0,.int .i64 0]:=(rfl)
@[simp] def zsN:EP false=.agg [.int .i64 9,.int .i64 0]:=(rfl)
def EI(id g sz:Nat)(es cU:Z (Z V)):EmbD where
 k:=1
 k':=1
 π:=λ_=>id
 OL:=[(0,.arr sz g es false false true)]
 cI:=[(0,.arr sz g cU false false true)]
 dq:=[.own 0 g 0 es.length none]
 v0:=.tuple []
def Fu:EmbD where
 k:=0
 k':=0
 π:=λi=>i
 OL:=[]
 cI:=[]
 dq:=[.aE]
 v0:=.tuple []
section
variable [iC α]
def zmX (sz:Nat) (F:Z α->Y (Z α)) (vs:Z V) (C:HS):Y EmbD:=match vs with
 | [.aE]=>some Fu
 | [.own id g 0 n none]=>W (C.H.get id) λo=>match o with
   |.arr s h es false false true=>gd (et (Nat.beq s sz) (et (Nat.beq h g) (et (Nat.beq n (dA es)) (Nat.blt id C.n)))) (W (eT es) λl=>W (F l) λl'=>some (EI id g sz es (l'.map iC.cells)))
   |_=>none
 |_=>none
def zmW{sz:Nat}{F:Z α->Y (Z α)}{D:EmbD}(h:zmX sz F vs C=some D) :
 (D=Fu/\vs=[.aE])\/∃ id g,∃ l l':Z α,F l=some l'/\D=EI id g sz (l.map iC.cells) (l'.map iC.cells)/\vs=[.own id g 0 l.length none]/\C.H.get id=some (.arr sz g (l.map iC.cells) false false true)/\id<C.n:=by
 unfold zmX at h;split at h
 . cases h;exact .inl ⟨rfl,rfl⟩
 . rename_i id g n;rw[aA]at h;obtain⟨o,ho,h⟩:=h;split at h
   . rename_i s h' es;simp only[bE,dx,beq_true,gz,aA,dI]at h;obtain⟨⟨M,O,h3,h4⟩,l,hl,l',AF,h⟩:=h;cases h;subst M O h3;obtain rfl:=iT hl;exact .inr ⟨id,h',l,l',AF,rfl,by simp,ho,h4⟩
   . cases h
 . cases h
def ziR:Fu.Good:=⟨rfl,rfl,af _,(λp hp=>by cases hp),(λp hp=>by cases hp),rfl,λv hv=>by simp only[Fu,ay]at hv;subst hv;rfl⟩
def ziS(C:HS):Fu.Fits [.aE] C:=⟨rfl,(λi j hi=>by simp only[Fu]at hi;omega),(λp hp=>by cases hp),(λi hi=>by simp only[Fu]at hi;omega),λi hi=>by simp only[Fu]at hi;omega⟩
def ziT{id sz:Nat}{l l':Z α}:(EI id g sz (l.map iC.cells) (l'.map iC.cells)).Good:=by
 refine⟨rfl,rfl,af _,λp hp=>?_,λp hp=>?_,rfl,λv hv=>?_⟩
 . simp only[EI,ay]at hp;subst hp;exact nS l
 . simp only[EI,ay]at hp;subst hp;exact⟨nS l',rfl⟩
 . simp only[EI,ay]at hv;subst hv;rfl
def XT{l:Z α}:((l.map iC.cells).map λe=>e.map (V.jl π))=l.map iC.cells:=uz (nS l)
def ziU{id sz:Nat}{l:Z α}(hg:C.H.get id=some (.arr sz g (l.map iC.cells) false false true))(hi:id<C.n):(EI id g sz (l.map iC.cells) cU).Fits [.own id g 0 l.length none] C:=by
 refine⟨by simp only[EI,aL];rfl,λi j M O _=>?_,λp hp=>?_,λi h=>?_,λi h=>hi⟩
 . simp only[EI]at M O;omega
 . simp only[EI,ay]at hp;subst hp;show C.H.get id=some (.arr sz g ((l.map iC.cells).map λe=>e.map (V.jl (λ_=>id))) false false true);rw[XT];exact hg
 . simp only[EI]at h;omega
@[simp] def zCm :Fu.val C=.tuple []:=(rfl)
@[simp] def zzk :Fu.heap C=C:=(rfl)
@[simp] def zCo {id sz:Nat} {es:Z (Z V)} :(EI id g sz es cU).val C=.tuple []:=(rfl)
def OO{id sz:Nat}{es:Z (Z V)}{l':Z α}:(EI id g sz es (l'.map iC.cells)).heap C=C.wr id (.arr sz g (l'.map iC.cells) false false true):=by
 show ({ H:=C.H.set (news C.n 1 (λ_=>id) 0) (.arr sz g ((l'.map iC.cells).map λe=>e.map (V.jl (news C.n 1 λ_=>id))) false false true),n:=C.n+0,log:=[news C.n 1 (λ_=>id) 0]++C.log }:HS)=_;rw[XT];rfl
@[simp] def zCn {sz:Nat} {F:Z α->Y (Z α)} :zmX sz F [.aE] C=some Fu:=(rfl)
def zmV{sz:Nat}{F:Z α->Y (Z α)}{id n:Nat}{l l':Z α}(hg:C.H.get id=some (.arr sz g (l.map iC.cells) false false true))(hn:n=l.length)(hi:id<C.n)(hF:F l=some l') :
 zmX sz F [.own id g 0 n none] C=some (EI id g sz (l.map iC.cells) (l'.map iC.cells)):=by
 show W (C.H.get id) _=_;rw[hg];subst hn;have e1:Nat.beq sz sz=true:=beq_true.2 rfl;have e2:Nat.beq g g=true:=beq_true.2 rfl;have e3:Nat.beq l.length (dA (l.map iC.cells))=true:=beq_true.2 (by simp);have e4:Nat.blt id C.n=true:=gz.2 hi;show gd (et (Nat.beq sz sz) (et (Nat.beq g g) (et (Nat.beq l.length (dA (l.map iC.cells))) (Nat.blt id C.n)))) (W (eT (l.map iC.cells)) λl=>W (F l) λl'=>some (EI id g sz _ (l'.map iC.cells)))=_;rw[e1,e2,e3,e4,qD];show W (F l) _=_;rw[hF];rfl
end
def Z5(l:Z α)(i:Nat)(L:Z α):Prop:=L.length=l.length/\∀ k,k<l.length->L[k]?=if k<i\/l.length-1-i<k then l[l.length-1-k]? else l[k]?
def Z5.start(l:Z α):Z5 l 0 l:=⟨rfl,λk hk=>by rw[if_neg (by omega)]⟩
def Z5.done{l L:Z α}{i:Nat}(h:Z5 l i L)(hi:l.length<=2*i+1):L=l.reverse:=by
 apply oK;intro k;by_cases hk:k<l.length
 . rw[h.2 k hk,List.getElem?_reverse hk];split
   . rfl
   . congr 1;omega
 . rw[jR (by rw[h.1];omega),jR (by simp;omega)]
def Z5.step{α:Type}{l L:Z α}{i:Nat}(h:Z5 l i L)(hi:2*i+1<l.length)(M:i<L.length)(O:l.length-1-i<L.length):Z5 l (i+1) ((L.set i L[l.length-1-i]).set (l.length-1-i) L[i]):=by
 have e1:=h.2 i (by omega);have e2:=h.2 (l.length-1-i) (by omega);rw[if_neg (by omega),ax M]at e1;rw[if_neg (by omega),ax O]at e2;refine⟨by simp[h.1],λk hk=>?_⟩;rw[mG,mG];by_cases k1:l.length-1-i=k
 . subst k1;rw[if_pos rfl,if_pos (by simpa using O),if_pos (by omega),e1]
   congr 1;omega
 . rw[if_neg k1];by_cases k2:i=k
   . subst k2;rw[if_pos rfl,if_pos M,if_pos (by omega),e2]
   . rw[if_neg k2,h.2 k hk];by_cases k3:k<i\/l.length-1-i<k
     . rw[if_pos k3,if_pos (by omega)]
     . rw[if_neg k3,if_neg (by omega)]
def iB(b5:Z Int)(D:Z Decl):Z Entry×G×Xp×Tp :=
 let c:=lK ⟨b5,0⟩ D
 let r:=gJ 3 c.1 D (c.2.1.map (·.name))
 (c.2.1,c.2.2,r.2,r.1)
def Ej(h:t.ok):(lK t D).1.ok/\(lK t D).2.1.length<=3:=by
 have M:=iw h 4;have O:=Af t 4;have h3:=Cb t (n:=4) (by omega);have h4:=ZL (D:=D) M (t.next 4).2.toNat;unfold lK;exact⟨(ME _ _ h4.1).1,by show (GD D (t.next 4).1 (t.next 4).2.toNat).2.length<=3;omega⟩
def zkl(hD:Jx D):∀ (t:Tp) (Lv:Z G),(∀ l∈Lv,l.ok=true/\l.size<=1)->(jb 2 t D Lv).2.ok=true/\(jb 2 t D Lv).2.size<=1000:=λt Lv hl =>
 ⟨SG hD (λl h=>(hl l h).1) 2 t,by have:=CG hD (λl h=>(hl l h).2) 2 t;omega⟩
def pF:Z Int->Z Int->Z Int
 |out,[]=>out
 |out,i::l=>pF (if i∈out then out else out++[i]) l
theorem zie(o a:Z Int)(i:Int):pF o (a++[i])=if i∈pF o a then pF o a else pF o a++[i]:=by
 induction a generalizing o with
 |nil=>rfl
 |cons x a ih=>exact ih _
theorem znE:i∈pF o a↔i∈o\/i∈a:=by
 induction a generalizing o with
 |nil=>simp[pF]
 | cons x a ih =>
   rw[pF,ih]
   grind
theorem Lh(o a b:Z Int):pF o (pF a b)=pF (pF o a) b:=by
 induction b generalizing a with
 |nil=>rfl
 | cons i b ih =>
   grind [pF,znE,zie]
theorem zdz(h:o.Nodup):(pF o a).Nodup:=by
 induction a generalizing o with
 |nil=>exact h
 | cons i a ih =>
   rw[pF]
   grind
theorem zlV(h:a.Nodup):pF [] a=a:=by
 have key:∀ (a o:Z Int),(o++a).Nodup->pF o a=o++a:=by
  intro a
  induction a with
  |nil=>intro o _;simp[pF]
  | cons i a ih =>
    grind [List.nodup_append,List.mem_cons_self,pF]
 grind
theorem zaz(o a:Z Int):(pF o a).length<=o.length+a.length:=by
 induction a generalizing o with
 |nil=>simp[pF]
 | cons i a ih =>
   grind [pF]
mutual
def G.xq:G->Y (Z Int)
 |.mk k _ i _ l=>if k=2 then some [i]else if k=5 then none else G.xE l []
def G.xE:Z G->Z Int->Y (Z Int)
 | [],out=>some out
 | t::l,out=>match t.xq with
   |none=>none
   |some b=>G.xE l (pF out b)
end
mutual
def G.DV:G->Z Int->Z Int
 |.mk k _ i _ l,out=>G.BH l (if k=2/\i ∉ out then out++[i]else out)
def G.BH:Z G->Z Int->Z Int
 | [],out=>out
 |t::l,out=>G.BH l (t.DV out)
end
mutual
def G.o6(q:Int):G->Bool
 |.mk k _ _ _ l=>decide (k=q)||G.wC q l
def G.wC(q:Int):Z G->Bool
 | []=>false
 |t::l=>t.o6 q||G.wC q l
end
mutual
def G.closed(b:Bool):G->Bool
 |.mk k _ _ _ l=>(decide (k=4)||decide (k=3)||b&&decide (k=2))&&G.yA b l
def G.yA(b:Bool):Z G->Bool
 | []=>true
 |t::l=>t.closed b&&G.yA b l
end
theorem G.zto(t:G):t.xq=if t.kind=2 then some [t.id]else if t.kind=5 then none else G.xE t.args []:=by cases t;rw[G.xq];rfl
def G.YP(t:G)(out:Z Int):t.DV out=G.BH t.args (if t.kind=2/\t.id ∉ out then out++[t.id]else out):=by cases t;rw[G.DV];rfl
def G.JZ(q:Int)(t:G):t.o6 q=(decide (t.kind=q)||G.wC q t.args):=by cases t;rw[G.o6];rfl
def G.El(b:Bool)(l:Z G):G.yA b l=l.all λt=>t.closed b:=by
 induction l with
 |nil=>rfl
 |cons a l ih=>rw[G.yA,ih];rfl
theorem G.zP(q:Int)(l:Z G):G.wC q l=l.any λt=>t.o6 q:=by
 induction l with
 |nil=>rfl
 |cons a l ih=>rw[G.wC,ih];rfl
theorem G.DX {k h:Int}  {l:Z G} (hv:(G.mk k n i h l).valid=true):(k=1\/k=2\/k=3\/k=4\/k=5)/\(k≠4->l=[])/\G.qw l=true:=by
 unfold G.valid at hv;by_cases GS:k=1\/k=2
 . rw[if_pos GS]at hv;simp at hv;obtain⟨_,rfl⟩:=hv;exact⟨by omega,λ_=>rfl,rfl⟩
 . rw [if_neg GS]at hv;by_cases h3:k=3
   . rw[if_pos h3]at hv;simp at hv;obtain⟨_,rfl⟩:=hv;exact⟨by omega,λ_=>rfl,rfl⟩
   . rw[if_neg h3]at hv;by_cases h5:k=5
     . rw[if_pos h5]at hv;simp at hv;obtain⟨⟨_,rfl⟩,_⟩:=hv;exact⟨by omega,λ_=>rfl,rfl⟩
     grind
mutual
theorem G.XX:∀ t:G,t.valid=true->(t.o6 5=true->t.xq=none)/\(t.o6 5=false->∃ b,t.xq=some b/\∀ out,t.DV out=pF out b)
 | .mk k n i h l=>λhv=>by
   obtain⟨hk,h4,hl⟩:=G.DX hv;obtain⟨i1,i2⟩:=G.Vm l hl;by_cases k4:k=4
   . subst k4;refine⟨λhh=>?_,λhh=>?_⟩
     . rw[G.xq,if_neg (by decide),if_neg (by decide)];refine i1 ?_ [];rw[G.JZ]at hh;simpa using hh
     . have zAb:G.wC 5 l=false:=by rw[G.JZ]at hh;simpa using hh
       obtain⟨b,M,O⟩:=i2 zAb;refine⟨pF [] b,?_,λout=>?_⟩
       . rw[G.xq,if_neg (by decide),if_neg (by decide),M]
       . rw[G.DV,if_neg (by simp),O,Lh];rfl
   . obtain rfl:=h4 k4;by_cases k5:k=5
     . subst k5;exact⟨λ_=>by rw[G.xq];rfl,λhh=>by rw[G.o6]at hh;simp at hh⟩
     . refine⟨λhh=>by rw[G.o6,G.wC]at hh;simp[k5]at hh,λ_=>?_⟩;by_cases k2:k=2
       . subst k2;refine⟨[i],by rw[G.xq];rfl,λout=>?_⟩;rw[G.DV,G.BH,pF,pF];by_cases hi:i∈out<;>simp[hi]
       . refine⟨[],by rw[G.xq,if_neg k2,if_neg k5,G.xE],λout=>?_⟩;rw[G.DV,G.BH,pF,if_neg (λh=>k2 h.1)]
theorem G.Vm:∀ l:Z G,G.qw l=true->(G.wC 5 l=true->∀ out,G.xE l out=none)/\(G.wC 5 l=false->∃ b,(∀ out,G.xE l out=some (pF out b))/\∀ out,G.BH l out=pF out b)
 | []=>λ_=>⟨λh=>(by rw[G.wC]at h;cases h),λ_=>⟨[],λout=>rfl,λout=>rfl⟩⟩
 | t :: l=>λhv=>by
   rw[G.qw,aQ]at hv;obtain⟨t1,t2⟩:=G.XX t hv.1;obtain⟨l1,l2⟩:=G.Vm l hv.2;refine⟨λhh out=>?_,λhh=>?_⟩
   . rw[G.xE]
     cases h5:t.o6 5 with
     |true=>rw[t1 h5]
     | false =>
       obtain⟨b,hb,_⟩:=t2 h5;rw[hb];exact l1 (by rw[G.wC,h5]at hh;simpa using hh) _
   . rw[G.wC,ko]at hh;obtain⟨b,hb,pZ⟩:=t2 hh.1;obtain⟨c,hc,ya⟩:=l2 hh.2;refine⟨pF b c,λout=>?_,λout=>?_⟩
     . rw[G.xE,hb];show G.xE l (pF out b)=_;rw[hc,Lh]
     . rw[G.BH,pZ,ya,Lh]
end
mutual
theorem G.GI(b:Bool):∀ t:G,t.valid=true->t.closed b=(!t.o6 1&&!t.o6 5&&(b||!t.o6 2))
 | .mk k n i h l=>λhv=>by
   obtain⟨hk,_,hl⟩:=G.DX hv;rw[G.closed,G.o6,G.o6,G.o6,G.QR b l hl];rcases hk with rfl|rfl|rfl|rfl|rfl<;>cases b<;>simp
theorem G.QR(b:Bool):∀ l:Z G,G.qw l=true->G.yA b l=(!G.wC 1 l&&!G.wC 5 l&&(b||!G.wC 2 l))
 | []=>λ_=>by cases b<;>rfl
 | t::l=>λhv=>by
   rw[G.qw,aQ]at hv;rw[G.yA,G.wC,G.wC,G.wC,G.GI b t hv.1,G.QR b l hv.2];cases t.o6 1<;>cases t.o6 5<;>cases t.o6 2<;>cases G.wC 1 l<;>cases G.wC 5 l<;>cases G.wC 2 l<;>cases b<;>rfl
end
def Nu:Z Int->Int->Bool
 | [],_=>true
 |x::l,i=>decide (x=i)&&Nu l (i+1)
def jh(c:Scheme):Bool:=c.type.valid&&!c.type.o6 5&&Nu (c.type.DV []) 0&&decide (((c.type.DV []).length:Int)=c.count)
def YE(c:Scheme):Bool:=match c.type.xq with
 |none=>false
 |some b=>c.type.valid&&decide ((b.length:Int)=c.count)&&Nu b 0
theorem Vj:∀ (l:Z G) (o r:Z Int),o.Nodup->G.xE l o=some r->r.Nodup:=by
 intro l
 induction l with
 |nil=>intro o r h hr;rw[G.xE]at hr;cases hr;exact h
 | cons t l ih =>
   grind [G.xE,zdz]
theorem G.zfB{t:G}(h:t.xq=some b):b.Nodup:=by
 grind [G.zto,Vj,List.nodup_nil]
theorem zbf(c:Scheme):YE c=jh c:=by
 grind [YE,jh,G.XX,zlV,G.zfB,Bool.and_comm]
def yB(l:Z Entry)(g:G):Bool:=g.valid&&g.closed false&&decide (g.size<=200)&&l.all λe=>jh e.scheme&&e.scheme.type.closed true&&decide (e.scheme.type.size<=200)
end Go.J
set_option maxHeartbeats 1000000
namespace Go.J
open bo (enc)
def H4(z:Y (Nat×Nat)):Nat:=match z with
 |none=>1
 |some _=>3
def QU(n:MN)(D:Z Decl)(s:MS)(l:Z G):Z V:=match s.z with
 |none=>.sl (D.map aP) false::.aE::.aE::oV 1 (l.map au)::jS 4 n.n
 |some (a,b)=>.sl (D.map aP) false::.own 1 a 0 s.sl.length none::.own 2 b 0 s.tr.length none::oV 3 (l.map au)::jS 4 n.n
def uC(n:MN)(D:Z Decl)(s:MS)(l:Z G):Z (Nat×Obj):=match s.z with
 |none=>(0,.arr (n.n+4) 0 [QU n D s l] true false false)::oH 1 5 (l.map au)
 |some (a,b)=>(0,.arr (n.n+4) 0 [QU n D s l] true false false)::(1,mS s.sl ⟨a,b,0,aW _⟩)::(2,mT s.tr ⟨a,b,0,aW _⟩)::oH 3 5 (l.map au)
def Kr(z:Y (Nat×Nat))(l:Z G):Nat:=match z,l with
 |none,[]=>1
 |none,_::_=>2
 |some _,[]=>3
 |some _,_::_=>4
def B6(z:Y (Nat×Nat))(l:Z G)(c d e:Nat):Z Nat:=match z,l with
 |none,[]=>[]
 |none,_::_=>[e]
 |some _,[]=>[c,d]
 |some _,_::_=>[c,d,e]
section
variable {n:MN}{m a b c d e:Nat}{hm:m<=1000}{D:Z Decl}{sl:Z Slot}{tr:Z Change}{t:G}{l:Z G}{s s':MS}{p:Nat×Nat}
@[simp] def zAG:uC ⟨m,hm⟩ D ⟨none,sl,tr⟩ l=(0,.arr (m+4) 0 [.sl (D.map aP) false::.aE::.aE::oV 1 (l.map au)::jS 4 m] true false false)::oH 1 5 (l.map au):=(rfl)
@[simp] def zAF:uC ⟨m,hm⟩ D ⟨some (a,b),sl,tr⟩ l=(0,.arr (m+4) 0 [.sl (D.map aP) false::.own 1 a 0 sl.length none::.own 2 b 0 tr.length none::oV 3 (l.map au)::jS 4 m] true false false)::(1,.arr 8 a (sl.map dG) false false true)::(2,.arr 10 b (tr.map bW) false false true)::oH 3 5 (l.map au):=(rfl)
@[simp] def zKM:Kr none []=1:=(rfl)
@[simp] def zKL:Kr none (t::l)=2:=(rfl)
@[simp] def zKK:Kr (some p) []=3:=(rfl)
@[simp] def zKJ:Kr (some p) (t::l)=4:=(rfl)
@[simp] def zKP:B6 none [] c d e=[]:=(rfl)
@[simp] def zKO:B6 (some p) [] c d e=[c,d]:=(rfl)
@[simp] def zKN:B6 (some p) (t::l) c d e=[c,d,e]:=(rfl)
def zfa(d:Decl):H7 (aP d)=true:=by
 simp[vR,cF,Ca,aI,iD,aP]
def QF(D:Z Decl):vR (D.map aP)=true:=Ca λe he=>by
 obtain⟨x,_,rfl⟩:=aI.1 he;exact zfa x
def zrP{i:Nat}{es:Z (Z V)}:(oV i es).mM=true/\(oV i es).ns=true:=by
 cases es<;>exact⟨rfl,rfl⟩
def zhA:(QU n D s l).length=n.n+4:=by
 obtain⟨z,sl,tr⟩:=s;cases z<;>simp[QU]
def zoU:wm 0 (QU n D s l)=true:=by
 obtain⟨z,sl,tr⟩:=s;cases z<;>simp[QU,wm,MO,QF,zrP]
theorem zoT{l':Z G}(k:Nat)(h:(QU n D s' l')[k]?=some (.sym k)):(QU n D s l)[k]?=some (.sym k):=by
 have key:∀ (s:MS) (l:Z G),(∃ j,k=j+4)->(QU n D s l)[k]?=(jS 4 n.n)[k-4]?:=by
  grind [QU]
 have hk:∃ j,k=j+4:=by
  refine aV λkq=>?_
  have:k=0\/k=1\/k=2\/k=3:=aV λh4=>kq ⟨k-4,by omega⟩
  obtain⟨z,sl,tr⟩:=s';rcases this with rfl|rfl|rfl|rfl<;>cases z<;>cases l'<;>cases h
 grind
def Jq:(uC n D s l).map Prod.fst=List.range (Kr s.z l):=by
 obtain⟨z,sl,tr⟩:=s;cases z<;>cases l<;>rfl
def zx6{A:Nat->Bool}(h:∀ i,i<Kr s.z l->A i=true):(Obj.arr (n.n+4) 0 [QU n D s l] true false false).in A=true:=by
 show (([QU n D s l]:Z (Z V)).all λe=>e.all λv=>if false=true then v.bM else v.zM A)=true;obtain⟨z,sl,tr⟩:=s;cases z<;>cases l<;>simp[QU]<;>first|done|(exact h _ (by simp))|(refine⟨?_,?_⟩<;>exact h _ (by simp))|(refine⟨?_,?_,?_⟩<;>exact h _ (by simp))
def zhz:∀ p∈uC n D s l,p.2.in (cr (uC n D s l))=true/\p.2.fz=false:=by
 have hd:∀ i,i<Kr s.z l->cr (uC n D s l) i=true:=by
  intro i hi;have:i∈(uC n D s l).map Prod.fst:=by rw[Jq];exact dB.2 hi
  obtain⟨q,hq,rfl⟩:=aI.1 this;exact di.2 ⟨q,hq,beq_true.2 rfl⟩
 have hr:∀ (t:G) (l:Z G) {A:Nat->Bool},(Obj.arr 5 l.length (au t::l.map au) false false true).in A=true:=λt l A=>Ay (t::l)
 intro p hp;have h0:=zx6 (n:=n) (D:=D) (s:=s) (l:=l) hd;obtain⟨z,sl,tr⟩:=s
 cases z with
 | none =>
   cases l with
   | nil =>
     simp only[uC,iP,LB,aB,aS,or_false]at hp;subst hp;exact⟨h0,rfl⟩
   | cons t l =>
     simp only[uC,aR,wO,aB,aS,or_false]at hp;rcases hp with rfl|rfl
     . exact⟨h0,rfl⟩
     . rw[aL];exact⟨hr t l,rfl⟩
 | some q =>
   cases q
   cases l with
   | nil =>
     simp only[uC,iP,LB,aB,aS,or_false]at hp;rcases hp with rfl|rfl|rfl
     . exact⟨h0,rfl⟩
     . exact⟨Qr,rfl⟩
     . exact⟨Qq,rfl⟩
   | cons t l =>
     simp only[uC,aR,wO,aB,aS,or_false]at hp;rcases hp with rfl|rfl|rfl|rfl
     . exact⟨h0,rfl⟩
     . exact⟨Qr,rfl⟩
     . exact⟨Qq,rfl⟩
     . rw[aL];exact⟨hr t l,rfl⟩
theorem zhy:∀ p∈uC n D s l,p.1≠0->p.2.ns=true:=by
 have hr:∀ (t:G) (l:Z G) (g:Nat),(Obj.arr 5 g (au t::l.map au) false false true).ns=true:=λt l g=>FH (t::l)
 intro p hp cb;obtain⟨z,sl,tr⟩:=s
 cases z with
 | none =>
   cases l with
   | nil =>
     grind [uC,LB]
   | cons t l =>
     grind [uC,wO]
 | some q =>
   cases q
   cases l with
   | nil =>
     grind [uC,LB,Uj,Ui]
   | cons t l =>
     grind [uC,wO,Uj,Ui]
def Sc:(0,Obj.arr (n.n+4) 0 [QU n D s l] true false false)∈uC n D s l:=by
 obtain⟨z,sl,tr⟩:=s;cases z<;>exact aD ..
end
def B5(args:Z V)(n:MN)(D:Z Decl)(s s':MS)(l l':Z G)(ds:Z V)(r:V)(b c d e:Nat):nU where
 k:=Kr s.z l
 k':=Kr s'.z l'
 π:=λi=>(b::B6 s.z l c d e).getD i 0
 OL:=uC n D s l
 cI:=uC n D s' l'
 dq:=.ptr 0 0 0::args
 v0:=r
 s:=0
 cs:=QU n D s l
 s5:=QU n D s' l'
 ds:=ds
open Classical in
def Nm(o:Obj):Y (V×V×V×V×{l:Z V // l.length<=1000}):=match o with
 |.arr sz 0 [d::x::y::w::post] true false false=>gd (et (Nat.beq sz (dA post+4)) (Jz (d::x::y::w::post))) (if h:post.length<=1000 then some (d,x,y,w,⟨post,h⟩)else none)
 |_=>none
theorem zcE{o:Obj}{q:V×V×V×V×{l:Z V // l.length<=1000}}(h:Nm o=some q):o=.arr (q.2.2.2.2.1.length+4) 0 [q.1::q.2.1::q.2.2.1::q.2.2.2.1::q.2.2.2.2.1] true false false/\∀ c∈q.1::q.2.1::q.2.2.1::q.2.2.2.1::q.2.2.2.2.1,c.mM=true:=by
 unfold Nm at h
 grind [bE,dx,beq_true,dI,NV]
@[simp] theorem zKI {d x y w:V} {post:Z V} {n:Nat} (h:post.length<=1000):Nm (.arr n 0 [d::x::y::w::post] true false false)=gd (et (Nat.beq n (dA post+4)) (Jz (d::x::y::w::post))) (some (d,x,y,w,⟨post,h⟩)):=by
  grind [Nm]
def NG(z:Y (Nat×Nat))(l:Z G):Bool:=match z,l with
 |none,_::_=>false
 |_,_=>true
@[simp] def zxP:NG none []=true:=(rfl)
@[simp] def zAn {p:Nat×Nat} {l:Z G}:NG (some p) l=true:=by cases l<;>rfl
def EM(z z':Y (Nat×Nat))(l l':Z G):Bool:=et (Nat.ble (WZ z) (WZ z')) (bi (Nat.beq (dA l') 0) (Nat.beq (dA l) 0) true)
def VL (F:Z Decl->MS->Z G->Z V->Y (V×MS×Z G)) (vs:Z V) (C:HS):Y nU:=match vs with
 |.ptr b 0 0::args=>W (C.H.get b) λIN=>W (Nm IN) λq=>W (bo.dec q.1:Y (Z Decl)) λD=>W (HA C q.2.1 q.2.2.1) λs=>W (rowOf 5 C q.2.2.2.1) λes=>W (eT es:Y (Z G)) λl=>W (F D s.2.2 l args) λr =>
  gd (et (Nat.ble (dA q.2.2.2.2.1) 900) (et (NG s.2.2.z l) (et (cd (b::B6 s.2.2.z l s.1 s.2.1 (rC q.2.2.2.1))) (et ((b::B6 s.2.2.z l s.1 s.2.1 (rC q.2.2.2.1)).all λx=>Nat.blt x C.n) (et (cu args) (et (H7 args) (et (r.1.tJ λ_=>false) (et r.1.ns (et (EM s.2.2.z r.2.1.z l r.2.2) (et (ig C C.n) (et (ig C (C.n+1)) (ig C (C.n+2)))))))))))))
   (some (B5 args ⟨q.2.2.2.2.1.length,q.2.2.2.2.2⟩ D s.2.2 r.2.1 l r.2.2 (q.1::q.2.1::q.2.2.1::q.2.2.2.1::q.2.2.2.2.1) r.1 b s.1 s.2.1 (rC q.2.2.2.1)))
 |_=>none
@[simp] def zMy {F:Z Decl→MS→Z G→Z V→Y (V×MS×Z G)} {b:Nat} {args:Z V} {C:HS}:VL F (.ptr b 0 0::args) C=W (C.H.get b) fun IN=>W (Nm IN) fun q=>W (bo.dec q.1:Y (Z Decl)) fun D=>W (HA C q.2.1 q.2.2.1) fun s=>W (rowOf 5 C q.2.2.2.1) fun es=>W (eT es:Y (Z G)) fun l=>W (F D s.2.2 l args) fun r =>
      gd (et (Nat.ble (dA q.2.2.2.2.1) 900) (et (NG s.2.2.z l) (et (cd (b::B6 s.2.2.z l s.1 s.2.1 (rC q.2.2.2.1))) (et ((b::B6 s.2.2.z l s.1 s.2.1 (rC q.2.2.2.1)).all λx=>Nat.blt x C.n) (et (cu args) (et (H7 args) (et (r.1.tJ λ_=>false) (et r.1.ns (et (EM s.2.2.z r.2.1.z l r.2.2) (et (ig C C.n) (et (ig C (C.n+1)) (ig C (C.n+2)))))))))))))
       (some (B5 args ⟨q.2.2.2.2.1.length,q.2.2.2.2.2⟩ D s.2.2 r.2.1 l r.2.2 (q.1::q.2.1::q.2.2.1::q.2.2.2.1::q.2.2.2.2.1) r.1 b s.1 s.2.1 (rC q.2.2.2.1))):=(rfl)
def Em{n:MN}{s0:Nat}{D:Z Decl}{s:MS}{l:Z G}{π:Nat->Nat}{x y z w:V}{post:Z V}(hn:post.length=n.n):mI s0 (x::y::z::w::post) π (s0,.arr (n.n+4) 0 [QU n D s l] true false false)=.arr (n.n+4) 0 [.sl (D.map aP) false::(match s.z with|none=>.aE|some (a,_)=>.own (π 1) a 0 s.sl.length none)::(match s.z with|none=>.aE|some (_,b)=>.own (π 2) b 0 s.tr.length none)::oV (π (H4 s.z)) (l.map au)::post] true false false:=by
 obtain⟨zz,sl,tr⟩:=s;cases zz<;>cases l<;>(show (if s0=s0 then _ else _)=_;rw[if_pos rfl];simp only[QU,Obj.zjx,mix,Il hn];rfl)
def J9 {F:Z Decl->MS->Z G->Z V->Y (V×MS×Z G)} {vs:Z V} {C:HS} {D:nU} (h:VL F vs C=some D) :
 ∃ args n Ds s s' l l' r ds b c d e,F Ds s l args=some (r,s',l')/\(s.z=none->s.sl=[]/\s.tr=[]/\l=[])/\EM s.z s'.z l l'=true/\n.n<=900/\D=B5 args n Ds s s' l l' ds r b c d e/\cu args=true/\(r.tJ λ_=>false)=true/\D.Good/\D.Fits vs C:=by
 unfold VL at h;split at h
 . rename_i b args;simp only[aA,bE,dx,aJ,dI]at h;obtain⟨IN,ho,q,hq,Ds,hDs,s,cm,es,gA,l,hl,⟨r,s',l'⟩,hr,⟨Ft,h0,M,O,h3,h4,h5,h6,h7,h8,h9,h10⟩,h⟩:=h;cases h;obtain⟨e3,e7⟩:=zcE hq;have e8:=Yz cm;have e9:=Ct gA;have AM:=bo.bq _ _ hDs;have Z3:=iT hl;obtain⟨c,d,s⟩:=s;obtain⟨x,y,z,w,post,dg⟩:=q;simp only at e3 e7 e8 e9 AM Z3 h0 M O hr h7 h5 h6 ⊢;subst e3 AM Z3
   have zNX:Kr s.z l<=Kr s'.z l'/\Kr s'.z l'<=Kr s.z l+3:=by
    obtain⟨zz,_,_⟩:=s;obtain⟨zMH,_,_⟩:=s';cases zz<;>cases zMH<;>cases l<;>cases l'<;>first|(refine⟨?_,?_⟩<;>simp;done)|(simp[NG]at h0;done)|(simp[EM]at h7;done)
   have hg:(B5 args ⟨post.length,dg⟩ Ds s s' l l' (enc Ds::y::z::w::post) r b c d (rC w)).Good:=by
    refine⟨Jq,Jq,zNX.1,λp hp=>(zhz p hp).1,zhz,V.AO (λ_ h=>by cases h) h5,?_,Sc,Sc,zhA,zhA,zoU,zoU,zoT,zhy,zhy,h6,?_⟩
    . intro v hv;rcases aB.1 hv with rfl|hv
      . exact di.2 ⟨_,Sc,rfl⟩
      . exact V.dU (jM h3 v hv)
    . intro v hv;rcases aB.1 hv with rfl|hv
      . rfl
      . exact wP h4 v hv
   have US:s.z=none->s.sl=[]/\s.tr=[]/\l=[]:=by
    intro hz;rcases e8 with⟨_,_,e⟩|⟨_,_,e,_⟩
    . rw[e];refine⟨rfl,rfl,?_⟩;rw[hz]at h0
      cases l with
      |nil=>rfl
      |cons _ _=>cases h0
    . rw[hz]at e;cases e
   refine⟨args,⟨post.length,dg⟩,Ds,s,s',l,l',r,_,b,c,d,rC w,hr,US,h7,gY.1 Ft,rfl,h3,h5,hg,?_⟩
   have nh:Kr s.z l=(b::B6 s.z l c d (rC w)).length:=by
    obtain⟨zz,_,_⟩:=s;cases zz<;>cases l<;>rfl
   refine⟨?_,λi j hi hj e=>?_,?_,λi hi=>?_,λi hi=>?_,?_,e7⟩
   . show (V.ptr 0 0 0::args).map (V.cq _)=_;rw[aR,M3 h3];rfl
   . replace hi:i<Kr s.z l:=hi;replace hj:j<Kr s.z l:=hj;rw[nh]at hi hj;exact CZ M hi hj e
   . intro p hp;have s8:p∈uC ⟨post.length,dg⟩ Ds s l:=hp;by_cases pL:p.1=0
     . have e1:=vS (by rw[Jq];exact iq) s8;have e2:=vS (p:=(0,Obj.arr (post.length+4) 0 [QU ⟨post.length,dg⟩ Ds s l] true false false)) (by rw[Jq];exact iq) (Sc (n:=⟨post.length,dg⟩) (D:=Ds) (s:=s) (l:=l));rw[pL]at e1;rw[e1]at e2;cases p;simp only at pL e2;subst pL;obtain rfl:=bS e2;show C.H.get b=some (mI 0 (enc Ds::y::z::w::post) (λi=>(b::B6 s.z l c d (rC w)).getD i 0) (0,_));rw[Em (n:=⟨post.length,dg⟩) rfl,ho]
       have hw:w=oV ((b::B6 s.z l c d (rC w)).getD (H4 s.z) 0) (l.map au):=by
        rcases e9 with⟨rfl,e9⟩|⟨id,rfl,e9,_,_,_⟩
        . have:l=[]:=by cases l with|nil=>rfl|cons _ _=>cases e9
          subst this;rfl
        . obtain⟨zz,sl,tr⟩:=s
          cases l with
          |nil=>exact absurd rfl e9
          |cons t l=>cases zz<;>rfl
       rcases e8 with⟨rfl,rfl,e8⟩|⟨ga,gb,e8,rfl,rfl,_,_⟩
       . subst e8;simp only at hw ⊢;rw[<- hw];rfl
       . obtain⟨zz,sl,tr⟩:=s;simp only at e8;subst e8;simp only at hw ⊢;rw[<- hw];cases l<;>rfl
     . show C.H.get ((b::B6 s.z l c d (rC w)).getD p.1 0)=some (if p.1=0 then _ else p.2.cq _);rw[if_neg pL];rcases e8 with⟨rfl,rfl,e8⟩|⟨ga,gb,e8,rfl,rfl,g4,g5⟩
       . subst e8;rcases e9 with⟨rfl,e9⟩|⟨id,rfl,e9,g6,_,g7⟩
         . have:l=[]:=by cases l with|nil=>rfl|cons _ _=>cases e9
           subst this;simp only[uC,iP,LB,aB,aS,or_false]at s8;subst s8;exact absurd rfl pL
         . cases l with
           |nil=>exact absurd rfl e9
           |cons t l=>cases h0
       . obtain⟨zz,sl,tr⟩:=s;simp only at e8 g4 g5;subst e8;rcases e9 with⟨rfl,e9⟩|⟨id,rfl,e9,g6,_,g7⟩
         . have:l=[]:=by cases l with|nil=>rfl|cons _ _=>cases e9
           subst this;simp only[uC,iP,LB,aB,aS,or_false]at s8;rcases s8 with rfl|rfl|rfl
           . exact absurd rfl pL
           . show C.H.get c=_;rw[g4];exact congrArg some (rZ (sl:=sl) (g:=⟨ga,gb,0,aW _⟩)).symm
           . show C.H.get d=_;rw[g5];exact congrArg some (rY (tr:=tr) (g:=⟨ga,gb,0,aW _⟩)).symm
         . cases l with
           |nil=>exact absurd rfl e9
           | cons t l =>
             simp only[uC,aR,wO,aB,aS,or_false]at s8;rcases s8 with rfl|rfl|rfl|rfl
             . exact absurd rfl pL
             . show C.H.get c=_;rw[g4];exact congrArg some (rZ (sl:=sl) (g:=⟨ga,gb,0,aW _⟩)).symm
             . show C.H.get d=_;rw[g5];exact congrArg some (rY (tr:=tr) (g:=⟨ga,gb,0,aW _⟩)).symm
             . show C.H.get id=_;rw[g6];exact congrArg some (CY (sz:=5) (es:=(t::l).map au) (Ay (t::l))).symm
   . have cj:i<Kr s'.z l'-Kr s.z l:=hi;have:i=0\/i=1\/i=2:=by omega
     rcases this with rfl|rfl|rfl
     . exact h8
     . exact h9
     . exact h10
   . replace hi:i<Kr s.z l:=hi;rw[nh]at hi;show (b::B6 s.z l c d (rC w)).getD i 0<C.n;rw[fS hi];exact gz.1 (aj.1 O _ (az hi))
   . show post.length+4<=1000000;omega
 . cases h
end Go.J
