import Derived.Test.YtfloillkpbhhhaaGreatJK10
import Derived.Test.YtfloillkpbhhhaaGreatJK8
import Derived.Test.YtfloillkpbhhhaaGreatJK7
import Derived.Test.YtfloillkpbhhhaaGreatJK9
set_option linter.all false
noncomputable section
set_option maxRecDepth 100000
set_option maxHeartbeats 4000000
namespace Go.J
open bo (enc)
def zhJ{sn:Z Int}:(Obj.mp (sn.map vN)).ns=true:=by
 show ((sn.map vN).all λp=>p.1.ns&&p.2.ns)=true;rw[au];intro p hp;obtain⟨n,_,rfl⟩:=aF.1 hp;rfl
def IC(sl:Z Slot)(tr:Z Change)(g:MG)(sn:Z Int):Z (Nat×Obj):=[(0,jw (.ptr 1 0 1)),(1,mB 2 4 sl tr g),(2,mS sl g),(3,.mp (sn.map vN)),(4,mT tr g)]
def zBI(args:Z V)(sl:Z Slot)(tr:Z Change)(g:MG)(ds:Z V)(sn El:Z Int)(r:Bool)(a b c m d:Nat):oF where
 k:=5
 k':=5
 π:=λi=>[a,b,c,m,d].getD i 0
 OL:=IC sl tr g sn
 cJ:=IC sl tr g El
 eb:=.ptr 0 0 0::args++[.map 3]
 v0:=.bool r
 s:=1
 cs:=mC 2 4 sl tr g
 tz:=mC 2 4 sl tr g
 ds:=ds
def Cl (F:Z Slot->Int->Z Int->G->Y (Bool×Z Int)) (vs:Z V) (C:HS):Y oF:=match vs with
 | [.ptr a 0 0,tv,.int .i64 h,.map m]=>ob (bo.dec tv:Y G) λty=>ob (C.H.get a) λoa=>ob (ee oa) λva=>ob (Jt 1 va) λb=>ob (C.H.get b) λo=>ob (Tf o) λq=>ob (D3 C q.2.1) λs=>ob (D2 C q.2.2.1) λt =>
  ob (C.H.get m) λom=>ob (Xu om) λes=>ob (yD es) λsn=>ob (F s.2.2 h sn ty) λr =>
  gd (et (cj [a,b,s.1,m,t.1]) ([a,b,s.1,m,t.1].all λx=>Nat.blt x C.n))
   (some (zBI [tv,.int .i64 h] s.2.2 t.2.2 ⟨s.2.1,t.2.1,q.2.2.2.1.length,q.2.2.2.2⟩ (q.1::q.2.1::q.2.2.1::q.2.2.2.1) sn r.2 r.1 a b s.1 m t.1))
 |_=>none
def zh7{sl:Z Slot}{tr:Z Change}{g:MG}{sn:Z Int}:∀ p∈IC sl tr g sn,p.2.in (cx (IC sl tr g sn))=true/\p.2.fz=false:=by
 intro p hp;have hd:∀ i,i<5->cx (IC sl tr g sn) i=true:=λi hi=>by rcases(show i=0\/i=1\/i=2\/i=3\/i=4 by omega)with rfl|rfl|rfl|rfl|rfl<;>rfl
 simp only[IC,ay,aU,or_false]at hp;rcases hp with rfl|rfl|rfl|rfl|rfl;exact⟨rfl,rfl⟩;exact⟨zie (hd 2 (by omega)) (hd 4 (by omega)),rfl⟩;exact⟨RB,rfl⟩;exact⟨rfl,rfl⟩;exact⟨RA,rfl⟩
def zh6{sl:Z Slot}{tr:Z Change}{g:MG}{sn:Z Int}:∀ p∈IC sl tr g sn,p.1≠1->p.2.ns=true:=by
 intro p hp cg;simp only[IC,ay,aU,or_false]at hp;rcases hp with rfl|rfl|rfl|rfl|rfl;rfl;exact absurd rfl cg;exact Vn;exact zhJ;exact Vm
theorem zh8 {F:Z Slot->Int->Z Int->G->Y (Bool×Z Int)} {vs:Z V} {C:HS} {D:oF} (hh:Cl F vs C=some D) :
 ∃ ty h sl tr g sn r ds a b c m d,F sl h sn ty=some r/\D=zBI [enc ty,.int .i64 h] sl tr g ds sn r.2 r.1 a b c m d/\D.Good/\D.Fits vs C:=by
 unfold Cl at hh;split at hh;rename_i a tv h m;simp only[aC,bI,dz]at hh;let⟨ty,hty,oa,J0,va,OK,b,hb,o,ho,q,hq,s,cp,t,ht,om,zBX,es,fY,sn,kx,r,hr,⟨M,O⟩,hh⟩:=hh;cases hh;have e0:=bo.bB _ _ hty;have e1:=uJ OK;have e2:=Kr hb;let⟨e3,BY⟩:=Oe hq;let⟨e4,g4⟩:=NG cp;let⟨e5,g5⟩:=Nz ht;have e6:=Vf fY;have e7:=Mo kx;let⟨c,ga,sl⟩:=s;let⟨d,gb,tr⟩:=t;let⟨x,y,z,post,du⟩:=q;simp only[dH]at e4 e5 g4 g5 M O hr e3 BY ⊢;subst e4 e5 e2 e1 e3 e0 e7 e6;refine⟨ty,h,sl,tr,⟨ga,gb,post.length,du⟩,sn,r,_,a,b,c,m,d,hr,rfl,⟨rfl,rfl,af _,λp hp=>(zh7 p hp).1,zh7,rfl,λv hv=>?_,?_,?_,MJ,MJ,Vo,Vo,zas rfl,zh6,zh6,rfl,λv hv=>?_⟩,?_⟩;have hv:v∈[V.ptr 0 0 0,enc ty,.int .i64 h,.map 3]:=hv;simp only[ay,aU,or_false]at hv;rcases hv with rfl|rfl|rfl|rfl;rfl;simp_all;rfl;rfl;exact aD _ (aB ..);exact aD _ (aB ..);have hv:v∈[V.ptr 0 0 0,enc ty,.int .i64 h,.map 3]:=hv;simp only[ay,aU,or_false]at hv;rcases hv with rfl|rfl|rfl|rfl;rfl;exact zDR ty;rfl;rfl;refine oF.KC [a,b,c,m,d] rfl rfl M O ?_ ?_ rfl ?_ BY;show [V.ptr 0 0 0,enc ty,.int .i64 h,.map 3].map (V.cw _)=_;rw[aX,aX,V.jq (V.dU (Au ty))];rfl;intro p hp;simp only[zBI,IC,ay,aU,or_false]at hp;rcases hp with rfl|rfl|rfl|rfl|rfl;exact J0;show C.H.get b=_;rw[ho];exact congrArg some (CJ (s:=1) (i:=2) (j:=4) (π:=λi=>[a,b,c,m,d].getD i 0) (sl:=sl) (tr:=tr) (g:=⟨ga,gb,post.length,du⟩) rfl).symm;show C.H.get c=_;rw[g4];exact congrArg some (sG (sl:=sl) (g:=⟨ga,gb,post.length,du⟩) (π:=λi=>[a,b,c,m,d].getD i 0)).symm;exact zBX;show C.H.get d=_;rw[g5];exact congrArg some (sF (tr:=tr) (g:=⟨ga,gb,post.length,du⟩) (π:=λi=>[a,b,c,m,d].getD i 0)).symm;show post.length+3<=1000000;omega;cases hh
section
variable {F:Z Slot->Int->Z Int->G->Y (Bool×Z Int)}{args:Z V}{sl:Z Slot}{tr:Z Change}{g:MG}{ds post:Z V}{r:Bool}{a b c m d ga gb n:Nat}{hh:n<=1000}{C:HS}{sn El:Z Int}{tv x y z:V}{h:Int}
@[simp] def zOb:Cl F [.ptr a 0 0,tv,.int .i64 h,.map m] C=ob (bo.dec tv:Y G) fun ty=>ob (C.H.get a) fun oa=>ob (ee oa) fun va=>ob (Jt 1 va) fun b=>ob (C.H.get b) fun o=>ob (Tf o) fun q=>ob (D3 C q.2.1) fun s=>ob (D2 C q.2.2.1) fun t =>
      ob (C.H.get m) λom=>ob (Xu om) λes=>ob (yD es) λsn=>ob (F s.2.2 h sn ty) λr =>
      gd (et (cj [a,b,s.1,m,t.1]) ([a,b,s.1,m,t.1].all λx=>Nat.blt x C.n))
       (some (zBI [tv,.int .i64 h] s.2.2 t.2.2 ⟨s.2.1,t.2.1,q.2.2.2.1.length,q.2.2.2.2⟩ (q.1::q.2.1::q.2.2.1::q.2.2.2.1) sn r.2 r.1 a b s.1 m t.1)):=(rfl)
@[simp] def zIC:(zBI args sl tr g ds sn El r a b c m d).vl C=.bool r:=(rfl)
@[simp] def zFh (hn:post.length=n):(zBI args sl tr ⟨ga,gb,n,hh⟩ (x::y::z::post) sn El r a b c m d).hp C={ H:=((((C.H.set d (.arr 10 gb (tr.map bW) false false true)).set m (.mp (El.map vN))).set c (.arr 8 ga (sl.map dK) false false true)).set b (.arr (n+3) 0 [x::.own c ga 0 sl.length none::.own d gb 0 tr.length none::post] true false false)).set a (jw (.ptr b 0 1)),n:=C.n,log:=a::b::c::m::d::C.log }:=by
  show ({ H:=((((C.H.set d ((mT tr ⟨ga,gb,n,hh⟩).cw _)).set m _).set c ((mS sl ⟨ga,gb,n,hh⟩).cw _)).set b (mV 1 (x::y::z::post) _ (1,mB 2 4 sl tr ⟨ga,gb,n,hh⟩))).set a _,n:=C.n+0,log:=_ }:HS)=_;rw[sG,sF,CJ hn];rfl
end
def qj(sl:Z Slot)(tr:Z Change)(g:MG)(sn:Z Int)(h:Int):Z (Nat×Obj):=[(0,jw (.ptr 1 0 1)),(1,mB 2 7 sl tr g),(2,mS sl g),(3,.mp (sn.map vN)),(4,jw (.ptr 0 0 0)),(5,jw (.int .i64 h)),(6,jw (.map 3)),(7,mT tr g)]
def W1(x:V)(f:Y Nat)(sl:Z Slot)(tr:Z Change)(g:MG)(ds:Z V)(sn El:Z Int)(h:Int)(r:V)(a b c m p q w d:Nat):oF where
 k:=8
 k':=8
 π:=λi=>[a,b,c,m,p,q,w,d].getD i 0
 OL:=qj sl tr g sn h
 cJ:=qj sl tr g El h
 eb:=x::DH f [.ptr 4 0 0,.ptr 5 0 0,.ptr 6 0 0]
 v0:=r
 s:=1
 cs:=mC 2 7 sl tr g
 tz:=mC 2 7 sl tr g
 ds:=ds
def DM (f:Y Nat) (F:Z Slot->Int->Z Int->V->Y (V×Z Int)) (vs:Z V) (C:HS):Y oF:=match vs with
 | x :: cl=>ob (OX f cl) fun l=>ob (zoc l) fun k=>ob (C.H.get k.1) fun op=>ob (ee op) fun vp=>ob (X7 vp) fun a=>ob (C.H.get k.2.1) fun oq=>ob (ee oq) fun vq=>ob (intOf vq) fun h=>ob (C.H.get k.2.2) fun ow=>ob (ee ow) fun vw=>ob (nF vw) fun m =>
     ob (C.H.get a) λoa=>ob (ee oa) λva=>ob (Jt 1 va) λb=>ob (C.H.get b) λo=>ob (Tf o) λq=>ob (D3 C q.2.1) λs=>ob (D2 C q.2.2.1) λt =>
     ob (C.H.get m) λom=>ob (Xu om) λes=>ob (yD es) λsn=>ob (F s.2.2 h sn x) λr =>
     gd (et (cj [a,b,s.1,m,k.1,k.2.1,k.2.2,t.1]) (et ([a,b,s.1,m,k.1,k.2.1,k.2.2,t.1].all λx=>Nat.blt x C.n) (et x.pure (et x.ns (et r.1.pure r.1.ns)))))
      (some (W1 x f s.2.2 t.2.2 ⟨s.2.1,t.2.1,q.2.2.2.1.length,q.2.2.2.2⟩ (q.1::q.2.1::q.2.2.1::q.2.2.2.1) sn r.2 h r.1 a b s.1 m k.1 k.2.1 k.2.2 t.1))
 |_=>none
theorem zic{sl:Z Slot}{tr:Z Change}{g:MG}{sn:Z Int}{h:Int}:∀ p∈qj sl tr g sn h,p.2.in (cx (qj sl tr g sn h))=true/\p.2.fz=false:=by
 intro p hp;have hd:∀ i,i=2\/i=7->cx (qj sl tr g sn h) i=true:=λi hi=>by rcases hi with rfl|rfl<;>rfl
 simp only[qj,ay,aU,or_false]at hp;rcases hp with rfl|rfl|rfl|rfl|rfl|rfl|rfl|rfl;exact⟨rfl,rfl⟩;exact⟨zie (hd 2 (.inl rfl)) (hd 7 (.inr rfl)),rfl⟩;exact⟨RB,rfl⟩;simp_all;exact⟨rfl,rfl⟩;exact⟨rfl,rfl⟩;exact⟨rfl,rfl⟩;exact⟨RA,rfl⟩
def zib{sl:Z Slot}{tr:Z Change}{g:MG}{sn:Z Int}{h:Int}:∀ p∈qj sl tr g sn h,p.1≠1->p.2.ns=true:=by
 intro p hp cg;simp only[qj,ay,aU,or_false]at hp;rcases hp with rfl|rfl|rfl|rfl|rfl|rfl|rfl|rfl;rfl;omega;exact Vn;exact zhJ;rfl;rfl;rfl;exact Vm
def zam {f:Y Nat} {F:Z Slot->Int->Z Int->V->Y (V×Z Int)} {vs:Z V} {C:HS} {D:oF} (hh:DM f F vs C=some D) :
 ∃ x h sl tr g sn r ds a b c m p q w d,F sl h sn x=some r/\D=W1 x f sl tr g ds sn r.2 h r.1 a b c m p q w d/\x.pure=true/\r.1.pure=true/\D.Good/\D.Fits vs C:=by
 unfold DM at hh;split at hh;rename_i x cl;simp only[aC,bI,dz]at hh;let⟨l,hl,k,hk,op,lP,vp,hvp,a,ha,oq,hoq,vq,zP3,h,zQq,ow,how,vw,hvw,m,hm,oa,J0,va,OK,b,hb,o,ho,q,hq,s,cp,t,ht,om,zBX,es,fY,sn,kx,r,hr,⟨M,O,h3,h4,h5,h6⟩,hh⟩:=hh;cases hh;have e1:=uJ OK;have e2:=Kr hb;let⟨e3,e17⟩:=Oe hq;let⟨e4,g4⟩:=NG cp;let⟨e5,g5⟩:=Nz ht;have e6:=Vf fY;have e7:=Mo kx;have e8:=uJ hvp;have e9:=zkl ha;have BY:=uJ zP3;have e11:=zk1 zQq;have e12:=uJ hvw;have e13:=Yh hm;have e14:=zob hk;have e15:=Y3 hl;let⟨c,ga,sl⟩:=s;let⟨d,gb,tr⟩:=t;let⟨yy,y,z,post,du⟩:=q;let⟨p,q,w⟩:=k;simp only[dH]at e4 e5 g4 g5 M O hr e14 lP hoq how e3 e17 ⊢;subst e4 e5 e2 e1 e3 e7 e6 e9 e8 e11 BY e13 e12 e14 e15;refine⟨x,h,sl,tr,⟨ga,gb,post.length,du⟩,sn,r,_,a,b,c,m,p,q,w,d,hr,rfl,h3,h5,⟨rfl,rfl,af _,λp hp=>(zic p hp).1,zic,V.dU h5,λv hv=>?_,?_,?_,MJ,MJ,Vo,Vo,zas rfl,zib,zib,h6,λv hv=>?_⟩,?_⟩;rcases ay.1 hv with rfl|hv;exact V.dU h3
 cases f with
 | none =>simp only[zcy,ay,aU,or_false]at hv;rcases hv with rfl|rfl|rfl<;>rfl
 | some f =>simp only[zcx,ay,aU,or_false]at hv;rcases hv with rfl;rfl
 exact aD _ (aB ..);exact aD _ (aB ..);rcases ay.1 hv with rfl|hv;exact h4
 cases f with
 | none =>simp only[zcy,ay,aU,or_false]at hv;rcases hv with rfl|rfl|rfl<;>rfl
 | some f =>simp only[zcx,ay,aU,or_false]at hv;rcases hv with rfl;rfl
 refine oF.KC [a,b,c,m,p,q,w,d] rfl rfl M O ?_ ?_ rfl ?_ e17;show (x::DH f [.ptr 4 0 0,.ptr 5 0 0,.ptr 6 0 0]).map (V.cw _)=_;rw[aX,V.jq (V.dU h3)];cases f<;>rfl
 intro u hu;simp only[W1,qj,ay,aU,or_false]at hu;rcases hu with rfl|rfl|rfl|rfl|rfl|rfl|rfl|rfl;exact J0;show C.H.get b=_;rw[ho];exact congrArg some (CJ (s:=1) (i:=2) (j:=7) (π:=λi=>[a,b,c,m,p,q,w,d].getD i 0) (sl:=sl) (tr:=tr) (g:=⟨ga,gb,post.length,du⟩) rfl).symm;show C.H.get c=_;rw[g4];exact congrArg some (sG (sl:=sl) (g:=⟨ga,gb,post.length,du⟩) (π:=λi=>[a,b,c,m,p,q,w,d].getD i 0)).symm;exact zBX;exact lP;exact hoq;exact how;show C.H.get d=_;rw[g5];exact congrArg some (sF (tr:=tr) (g:=⟨ga,gb,post.length,du⟩) (π:=λi=>[a,b,c,m,p,q,w,d].getD i 0)).symm;show post.length+3<=1000000;omega;cases hh
section
variable {f:Y Nat}{F:Z Slot->Int->Z Int->V->Y (V×Z Int)}{cl:Z V}{sl:Z Slot}{tr:Z Change}{g:MG}{ds post:Z V}{r x u y z:V}{a b c m p q w d ga gb n:Nat}{hh:n<=1000}{C:HS}{sn El:Z Int}{h:Int}
@[simp] def zOc:DM f F (x::cl) C=ob (OX f cl) fun l=>ob (zoc l) fun k=>ob (C.H.get k.1) fun op=>ob (ee op) fun vp=>ob (X7 vp) fun a=>ob (C.H.get k.2.1) fun oq=>ob (ee oq) fun vq=>ob (intOf vq) fun h=>ob (C.H.get k.2.2) fun ow=>ob (ee ow) fun vw=>ob (nF vw) fun m =>
      ob (C.H.get a) λoa=>ob (ee oa) λva=>ob (Jt 1 va) λb=>ob (C.H.get b) λo=>ob (Tf o) λq=>ob (D3 C q.2.1) λs=>ob (D2 C q.2.2.1) λt =>
      ob (C.H.get m) λom=>ob (Xu om) λes=>ob (yD es) λsn=>ob (F s.2.2 h sn x) λr =>
      gd (et (cj [a,b,s.1,m,k.1,k.2.1,k.2.2,t.1]) (et ([a,b,s.1,m,k.1,k.2.1,k.2.2,t.1].all λx=>Nat.blt x C.n) (et x.pure (et x.ns (et r.1.pure r.1.ns)))))
       (some (W1 x f s.2.2 t.2.2 ⟨s.2.1,t.2.1,q.2.2.2.1.length,q.2.2.2.2⟩ (q.1::q.2.1::q.2.2.1::q.2.2.2.1) sn r.2 h r.1 a b s.1 m k.1 k.2.1 k.2.2 t.1)):=(rfl)
@[simp] def zFl {e:Bool}:(W1 x f sl tr g ds sn El h (.bool e) a b c m p q w d).vl C=.bool e:=(rfl)
@[simp] def zFk {e:Int}:(W1 x f sl tr g ds sn El h (.int .i64 e) a b c m p q w d).vl C=.int .i64 e:=(rfl)
@[simp] def zFm (hn:post.length=n):(W1 x f sl tr ⟨ga,gb,n,hh⟩ (u::y::z::post) sn El h r a b c m p q w d).hp C={ H:=(((((((C.H.set d (.arr 10 gb (tr.map bW) false false true)).set w (jw (.map m))).set q (jw (.int .i64 h))).set p (jw (.ptr a 0 0))).set m (.mp (El.map vN))).set c (.arr 8 ga (sl.map dK) false false true)).set b (.arr (n+3) 0 [u::.own c ga 0 sl.length none::.own d gb 0 tr.length none::post] true false false)).set a (jw (.ptr b 0 1)),n:=C.n,log:=a::b::c::m::p::q::w::d::C.log }:=by
  show ({ H:=(((((((C.H.set d ((mT tr ⟨ga,gb,n,hh⟩).cw _)).set w _).set q _).set p _).set m _).set c ((mS sl ⟨ga,gb,n,hh⟩).cw _)).set b (mV 1 (u::y::z::post) _ (1,mB 2 7 sl tr ⟨ga,gb,n,hh⟩))).set a _,n:=C.n+0,log:=_ }:HS)=_;rw[sG,sF,CJ hn];rfl
end
def MD(sl:Z Slot)(tr:Z Change)(g:MG):Z (Nat×Obj):=[(0,mS sl g),(1,mT tr g)]
def zFc(args:Z V)(sl:Z Slot)(tr:Z Change)(g:MG)(r:V)(c d:Nat):EmbD where
 k:=2
 k':=2
 π:=λi=>[c,d].getD i 0
 OL:=MD sl tr g
 cJ:=MD sl tr g
 eb:=.agg [.own 0 g.a 0 sl.length none,.own 1 g.b 0 tr.length none]::args
 v0:=r
def Hn (F:ao->Z V->Y V) (vs:Z V) (C:HS):Y EmbD:=match vs with
 |.agg [x,y]::args=>ob (D3 C x) λs=>ob (D2 C y) λt=>ob (F ⟨s.2.2,t.2.2⟩ args) λr =>
  gd (et (cj [s.1,t.1]) (et ([s.1,t.1].all λx=>Nat.blt x C.n) (et (bX args) (et r.pure (gW C C.n)))))
   (some (zFc args s.2.2 t.2.2 ⟨s.2.1,t.2.1,0,aZ _⟩ r s.1 t.1))
 |_=>none
def zh2{sl:Z Slot}{tr:Z Change}{g:MG}:∀ p∈MD sl tr g,p.2.in (cx (MD sl tr g))=true/\p.2.fz=false:=by
 intro p hp;simp only[MD,ay,aU,or_false]at hp;rcases hp with rfl|rfl;exact⟨RB,rfl⟩;exact⟨RA,rfl⟩
theorem zto {F:ao->Z V->Y V} {vs:Z V} {C:HS} {D:EmbD} (h:Hn F vs C=some D) :
 ∃ args sl tr g r c d,F ⟨sl,tr⟩ args=some r/\D=zFc args sl tr g r c d/\bX args=true/\r.pure=true/\D.Good/\D.Fits vs C:=by
 unfold Hn at h;split at h;rename_i x y args;simp only[aC,bI,dz,aK]at h;let⟨s,cp,t,ht,r,hr,⟨M,O,h3,h4,h5⟩,h⟩:=h;cases h;let⟨e4,g4⟩:=NG cp;let⟨e5,g5⟩:=Nz ht;let⟨c,ga,sl⟩:=s;let⟨d,gb,tr⟩:=t;simp only at e4 e5 g4 g5 M O hr h4;subst e4 e5;refine⟨args,sl,tr,⟨ga,gb,0,aZ _⟩,r,c,d,hr,rfl,h3,h4,⟨rfl,rfl,af _,λp hp=>(zh2 p hp).1,zh2,V.dU h4,λv hv=>?_⟩,?_⟩;rcases ay.1 hv with rfl|hv;rfl;exact V.dU (jo h3 v hv);refine EmbD.KC [c,d] rfl rfl M O ?_ ?_ (mQ _) h5;show (V.agg [.own 0 ga 0 sl.length none,.own 1 gb 0 tr.length none]::args).map (V.cw _)=_;rw[aX,NP h3];rfl;simp_all [zFc,MD,ay,aU,sG,aZ,sF];cases h
@[simp] def zN8 {F:ao→Z V→Y V} {x y:V} {args:Z V} {C:HS}:Hn F (.agg [x,y]::args) C=ob (D3 C x) fun s=>ob (D2 C y) fun t=>ob (F ⟨s.2.2,t.2.2⟩ args) fun r =>
      gd (et (cj [s.1,t.1]) (et ([s.1,t.1].all λx=>Nat.blt x C.n) (et (bX args) (et r.pure (gW C C.n)))))
       (some (zFc args s.2.2 t.2.2 ⟨s.2.1,t.2.1,0,aZ _⟩ r s.1 t.1)):=(rfl)
@[simp] def zLi {args:Z V} {sl:Z Slot} {tr:Z Change} {g:MG} {r:V} {c d:Nat}:(zFc args sl tr g r c d).v0=r:=(rfl)
end Go.J
set_option maxHeartbeats 1000000
namespace Go.J
open bo (enc)
def mN(n:Nat):Obj:=.arr (n+3) 0 [.sym 0::.a8::.a8::jT 3 n] true false false
def zFp(n:Nat):Z V:=.sym 0::.a8::.a8::jT 3 n
@[simp] def zPT {n:Nat}:mN n=.arr (n+3) 0 [.sym 0::.a8::.a8::jT 3 n] true false false:=(rfl)
theorem zid{s n:Nat}{d x y:V}{post:Z V}{π:Nat->Nat}(hn:post.length=n):mV s (d::x::y::post) π (s,mN n)=.arr (n+3) 0 [d::.a8::.a8::post] true false false:=by
 show (if s=s then Obj.arr (n+3) 0 [d::.a8::.a8::mix π (jT 3 n) post] true false false else _)=_;grind [I8]
structure MN where
 n:Nat
 h:n<=1000
structure MS where
 z:Option (Nat×Nat)
 sl:List Slot
 tr:List Change
def uC(n:MN)(s:MS):Z (Nat×Obj):=match s.z with
 |none=>[(0,mN n.n)]
 |some (a,b)=>[(0,mB 1 2 s.sl s.tr ⟨a,b,n.n,n.h⟩),(1,mS s.sl ⟨a,b,n.n,n.h⟩),(2,mT s.tr ⟨a,b,n.n,n.h⟩)]
def Lw(n:MN)(s:MS):Z V:=match s.z with
 |none=>zFp n.n
 |some (a,b)=>mC 1 2 s.sl s.tr ⟨a,b,n.n,n.h⟩
def Yg(z:Y (Nat×Nat)):Nat:=match z with
 |none=>1
 |some _=>3
def Ly(z:Y (Nat×Nat))(c d:Nat):Z Nat:=match z with
 |none=>[]
 |some _=>[c,d]
section
variable {n:MN}{m a b c d:Nat}{hm:m<=1000}{sl:Z Slot}{tr:Z Change}{s:MS}
@[simp] def zBF:uC ⟨m,hm⟩ ⟨none,sl,tr⟩=[(0,mN m)]:=(rfl)
@[simp] def zBE:uC ⟨m,hm⟩ ⟨some (a,b),sl,tr⟩=[(0,mB 1 2 sl tr ⟨a,b,m,hm⟩),(1,mS sl ⟨a,b,m,hm⟩),(2,mT tr ⟨a,b,m,hm⟩)]:=(rfl)
@[simp] def zE2:Yg none=1:=(rfl)
@[simp] def zE1 {p:Nat×Nat}:Yg (some p)=3:=(rfl)
@[simp] def zE4:Ly none c d=[]:=(rfl)
@[simp] def zE3 {p:Nat×Nat}:Ly (some p) c d=[c,d]:=(rfl)
def zyA:wK 0 (zFp m)=true:=by
 simp only[zFp,wK,NC,V.ns,Bool.or_true,fT];rfl
def zhZ:(Lw n s).length=n.n+3:=by
 let⟨z,sl,tr⟩:=s
 cases z with
 |none=>simp[Lw,zFp]
 |some p=>exact MJ
def zoB:wK 0 (Lw n s)=true:=by
 let⟨z,sl,tr⟩:=s
 cases z with
 |none=>exact zyA
 |some p=>exact Vo
theorem zoA{s':MS}(k:Nat)(h:(Lw n s')[k]?=some (.sym k)):(Lw n s)[k]?=some (.sym k):=by
 grind [Lw,jT,zFp,mC]
def zcU:(uC n s).map Prod.fst=List.range (Yg s.z):=by
 let⟨z,sl,tr⟩:=s;cases z<;>rfl
def zFo{A:Nat->Bool}:(mN m).in A=true:=by
 simp[jT,au,ZE]
def zhX:∀ p∈uC n s,p.2.in (cx (uC n s))=true/\p.2.fz=false:=by
 intro p hp;let⟨z,sl,tr⟩:=s
 cases z with
 | none =>simp only[uC,ay,aU,or_false]at hp;subst hp;exact⟨zFo,rfl⟩
 | some q =>
   let⟨a,b⟩:=q;have hd:∀ i,i=1\/i=2->cx (uC n ⟨some (a,b),sl,tr⟩) i=true:=λi hi=>by rcases hi with rfl|rfl<;>rfl
   simp only[uC,ay,aU,or_false]at hp;rcases hp with rfl|rfl|rfl;exact⟨zie (hd 1 (.inl rfl)) (hd 2 (.inr rfl)),rfl⟩;exact⟨RB,rfl⟩;exact⟨RA,rfl⟩
theorem zhW:∀ p∈uC n s,p.1≠0->p.2.ns=true:=by
 grind [uC,Vn,Vm]
def zhY:(0,Obj.arr (n.n+3) 0 [Lw n s] true false false)∈uC n s:=by
 let⟨z,sl,tr⟩:=s;cases z<;>exact aB ..
end
def DP(off:Nat)(args:Z V)(n:MN)(s s':MS)(ds:Z V)(r:V)(b c d:Nat):oF where
 k:=Yg s.z
 k':=Yg s'.z
 π:=λi=>(b::Ly s.z c d).getD i 0
 OL:=uC n s
 cJ:=uC n s'
 eb:=.ptr 0 0 off::args
 v0:=r
 s:=0
 cs:=Lw n s
 tz:=Lw n s'
 ds:=ds
def Is (C:HS) (x y:V):Y (Nat×Nat×MS):=match x with
 | .a8=>(match y with
   |.a8=>some (0,0,⟨none,[],[]⟩)
   |_=>none)
 |x=>ob (D3 C x) λs=>ob (D2 C y) λt=>some (s.1,t.1,⟨some (s.2.1,t.2.1),s.2.2,t.2.2⟩)
@[simp] def zHM {C:HS}:Is C .a8 .a8=some (0,0,⟨none,[],[]⟩):=(rfl)
@[simp] def zHL {C:HS} {c g o n:Nat} {e:Y Nat} {y:V}:Is C (.own c g o n e) y=ob (D3 C (.own c g o n e)) λs=>ob (D2 C y) λt=>some (s.1,t.1,⟨some (s.2.1,t.2.1),s.2.2,t.2.2⟩):=(rfl)
theorem ZI{C:HS}{x y:V}{q:Nat×Nat×MS}(h:Is C x y=some q) :
 (x=.a8/\y=.a8/\q.2.2=⟨none,[],[]⟩)\/∃ a b,q.2.2.z=some (a,b)/\x=.own q.1 a 0 q.2.2.sl.length none/\y=.own q.2.1 b 0 q.2.2.tr.length none /\
   C.H.get q.1=some (.arr 8 a (q.2.2.sl.map dK) false false true)/\C.H.get q.2.1=some (.arr 10 b (q.2.2.tr.map bW) false false true):=by
 unfold Is at h;split at h;grind;simp only[aC]at h;let⟨s,cp,t,ht,h⟩:=h;grind [NG,Nz]
def DC (off:Nat) (F:MS->Z V->Y (V×MS)) (vs:Z V) (C:HS):Y oF:=match vs with
 |.ptr b 0 o::args=>gd (Nat.beq o off) (ob (C.H.get b) λL2=>ob (Tf L2) λq=>ob (Is C q.2.1 q.2.2.1) λs=>ob (F s.2.2 args) λr =>
  gd (et (cj (b::Ly s.2.2.z s.1 s.2.1)) (et ((b::Ly s.2.2.z s.1 s.2.1).all λx=>Nat.blt x C.n) (et (bX args) (et (IU args) (et (r.1.sS λ_=>false) (et r.1.ns (et (Nat.ble (Yg s.2.2.z) (Yg r.2.z)) (et (gW C C.n) (gW C (C.n+1))))))))))
   (some (DP off args ⟨q.2.2.2.1.length,q.2.2.2.2⟩ s.2.2 r.2 (q.1::q.2.1::q.2.2.1::q.2.2.2.1) r.1 b s.1 s.2.1)))
 |_=>none
@[simp] def zN6 {off o:Nat} {F:MS→Z V→Y (V×MS)} {b:Nat} {args:Z V} {C:HS}:DC off F (.ptr b 0 o::args) C=gd (Nat.beq o off) (ob (C.H.get b) fun L2=>ob (Tf L2) fun q=>ob (Is C q.2.1 q.2.2.1) fun s=>ob (F s.2.2 args) fun r =>
      gd (et (cj (b::Ly s.2.2.z s.1 s.2.1)) (et ((b::Ly s.2.2.z s.1 s.2.1).all λx=>Nat.blt x C.n) (et (bX args) (et (IU args) (et (r.1.sS λ_=>false) (et r.1.ns (et (Nat.ble (Yg s.2.2.z) (Yg r.2.z)) (et (gW C C.n) (gW C (C.n+1))))))))))
       (some (DP off args ⟨q.2.2.2.1.length,q.2.2.2.2⟩ s.2.2 r.2 (q.1::q.2.1::q.2.2.1::q.2.2.2.1) r.1 b s.1 s.2.1))):=(rfl)
theorem GM {off:Nat} {F:MS->Z V->Y (V×MS)} {vs:Z V} {C:HS} {D:oF} (h:DC off F vs C=some D) :
 ∃ args n s s' r ds b c d,F s args=some (r,s')/\(s.z=none->s.sl=[]/\s.tr=[])/\D=DP off args n s s' ds r b c d/\bX args=true/\(r.sS λ_=>false)=true/\D.Good/\D.Fits vs C:=by
 unfold DC at h;split at h;rename_i b o args;simp only[aC,bI,dz,aK,beq_true,gM,dH]at h;obtain⟨rfl,L2,ho,q,hq,s,cp,⟨r,s'⟩,hr,⟨M,O,h3,h4,h5,h6,h7,h8,h9⟩,h⟩:=h;cases h;let⟨e3,e7⟩:=Oe hq;have e8:=ZI cp;let⟨c,d,s⟩:=s;let⟨x,y,z,post,du⟩:=q;simp only at e3 e7 e8 M O hr h7 h5 h6 ⊢;subst e3
 have hg:(DP o args ⟨post.length,du⟩ s s' (x::y::z::post) r b c d).Good:=by
  refine⟨zcU,zcU,h7,λp hp=>(zhX p hp).1,zhX,V.Bq (λ_ h=>by cases h) h5,?_,zhY,zhY,zhZ,zhZ,zoB,zoB,zoA,zhW,zhW,h6,?_⟩;intro v hv;rcases ay.1 hv with rfl|hv;let⟨z,sl,tr⟩:=s;cases z<;>rfl
  exact V.dU (jo h3 v hv);intro v hv;rcases ay.1 hv with rfl|hv;rfl;exact xw h4 v hv
 have GW:∀ d1∈x::y::z::post,d1.mY=true:=e7;have hz0:s.z=none->s.sl=[]/\s.tr=[]:=by grind
 refine⟨args,⟨post.length,du⟩,s,s',r,_,b,c,d,hr,hz0,rfl,h3,h5,hg,?_⟩;have kA:Yg s.z=(b::Ly s.z c d).length:=by let⟨z,sl,tr⟩:=s;cases z<;>rfl
 refine⟨?_,λi j hi hj e=>?_,?_,λi hi=>?_,λi hi=>?_,?_,GW⟩;show (V.ptr 0 0 o::args).map (V.cw _)=_;rw[aX,NP h3];rfl;replace hi:i<Yg s.z:=hi;replace hj:j<Yg s.z:=hj;rw[kA]at hi hj;exact Dy M hi hj e;intro p hp;rcases e8 with⟨rfl,rfl,e8⟩|⟨ga,gb,e8,rfl,rfl,e9,BY⟩;grind [DP,uC,zid];let⟨zz,sl,tr⟩:=s;simp only at e8 e9 BY;subst e8;simp only[DP,uC,ay,aU,or_false]at hp;rcases hp with rfl|rfl|rfl;show C.H.get b=_;rw[ho];exact congrArg some (CJ (s:=0) (i:=1) (j:=2) (π:=λi=>[b,c,d].getD i 0) (sl:=sl) (tr:=tr) (g:=⟨ga,gb,post.length,du⟩) rfl).symm;show C.H.get c=_;rw[e9];exact congrArg some (sG (sl:=sl) (g:=⟨ga,gb,post.length,du⟩) (π:=λi=>[b,c,d].getD i 0)).symm;show C.H.get d=_;rw[BY];exact congrArg some (sF (tr:=tr) (g:=⟨ga,gb,post.length,du⟩) (π:=λi=>[b,c,d].getD i 0)).symm;have cm:i<Yg s'.z-Yg s.z:=hi;have:i=0\/i=1:=by let⟨z',_,_⟩:=s';cases z'<;>cases hz:s.z<;>simp[hz]at cm<;>omega
 grind;replace hi:i<Yg s.z:=hi;rw[kA]at hi;show (b::Ly s.z c d).getD i 0<C.n;grind [fS,gz,List.all_eq_true,List.getElem_mem];show post.length+3<=1000000;omega;cases h
section
variable {off:Nat}{args:Z V}{N:MN}{n a b c d ga gb BQ BP:Nat}{ke:n<=1000}{sl cW:Z Slot}{tr xZ:Z Change}{x y z r:V}{post:Z V}{C:HS}{s s':MS}{ds:Z V}
@[simp] def zE6 {e:Bool}:(DP off args N s s' ds (.bool e) b c d).vl C=.bool e:=(rfl)
@[simp] def zE5 {e:Int}:(DP off args N s s' ds (.int .i64 e) b c d).vl C=.int .i64 e:=(rfl)
@[simp] def zyu (hn:post.length=n):(DP off args ⟨n,ke⟩ ⟨none,sl,tr⟩ ⟨none,cW,xZ⟩ (x::y::z::post) r b c d).hp C={ H:=C.H.set b (.arr (n+3) 0 [x::.a8::.a8::post] true false false),n:=C.n,log:=b::C.log }:=by
  show ({ H:=C.H.set b (mV 0 (x::y::z::post) _ (0,mN n)),n:=C.n+0,log:=_ }:HS)=_;rw[zid hn];rfl
@[simp] def zyt (hn:post.length=n):(DP off args ⟨n,ke⟩ ⟨none,sl,tr⟩ ⟨some (BQ,BP),cW,xZ⟩ (x::y::z::post) r b c d).hp C={ H:=((C.H.set (C.n+1) (.arr 10 BP (xZ.map bW) false false true)).set C.n (.arr 8 BQ (cW.map dK) false false true)).set b (.arr (n+3) 0 [x::.own C.n BQ 0 cW.length none::.own (C.n+1) BP 0 xZ.length none::post] true false false),n:=C.n+2,log:=b::C.n::(C.n+1)::C.log }:=by
  show ({ H:=((C.H.set (C.n+1) ((mT xZ ⟨BQ,BP,n,ke⟩).cw _)).set (C.n+0) ((mS cW ⟨BQ,BP,n,ke⟩).cw _)).set b (mV 0 (x::y::z::post) _ (0,mB 1 2 cW xZ ⟨BQ,BP,n,ke⟩)),n:=C.n+2,log:=_ }:HS)=_;rw[sG,sF,CJ hn];rfl
@[simp] def zys (hn:post.length=n):(DP off args ⟨n,ke⟩ ⟨some (ga,gb),sl,tr⟩ ⟨some (BQ,BP),cW,xZ⟩ (x::y::z::post) r b c d).hp C={ H:=((C.H.set d (.arr 10 BP (xZ.map bW) false false true)).set c (.arr 8 BQ (cW.map dK) false false true)).set b (.arr (n+3) 0 [x::.own c BQ 0 cW.length none::.own d BP 0 xZ.length none::post] true false false),n:=C.n,log:=b::c::d::C.log }:=by
  show ({ H:=((C.H.set d ((mT xZ ⟨BQ,BP,n,ke⟩).cw _)).set c ((mS cW ⟨BQ,BP,n,ke⟩).cw _)).set b (mV 0 (x::y::z::post) _ (0,mB 1 2 cW xZ ⟨BQ,BP,n,ke⟩)),n:=C.n+0,log:=_ }:HS)=_;rw[sG,sF,CJ hn];rfl
end
def Vh{v:V}:∀ {k n:Nat},v∈jT k n↔∃ j,(k<=j/\j<k+n)/\v=.sym j
 |k,0=>by simp[jT];omega
 | k,n+1=>by
   rw[jT,ay,Vh];constructor;rintro (rfl|⟨j,h,rfl⟩);exact⟨k,by omega,rfl⟩;exact⟨j,by omega,rfl⟩;rintro ⟨j,h,rfl⟩;by_cases e:j=k;exact .inl (by rw[e]);exact .inr ⟨j,by omega,rfl⟩
section
variable {n:Nat}
@[simp] def zOa:2 % (n+3)=2:=vZ (by omega)
@[simp] def zOP:1 / (n+3)=0:=wh (by omega)
@[simp] def zOO:2 / (n+3)=0:=wh (by omega)
@[simp] def zN9:3 % (n+4)=3:=vZ (by omega)
@[simp] def zON:3 / (n+4)=0:=wh (by omega)
end
def jy{A:Nat->Bool}{k n:Nat}:∀ (x:V) (j:Nat),k<=j->j<k+n->x=V.sym j->V.Ai A x=true:=by
 rintro _ _ _ _ rfl;rfl
@[simp] def zoj {α:Type}:∀ {l:Z α} {n:Nat},kF l n []=l
  | [],_=>rfl
  |_::_,0=>rfl
  |x::l,n+1=>congrArg (x::·) (zoj (l:=l) (n:=n))
section
variable {l:Z V}{v:V}{es:Z (Z V)}{t b:Bool}{k:IntKind}{n:Int}{s:Z Nat}{i g o m:Nat}{c:Y Nat}
@[simp] def zBw:IU []=true:=(rfl)
@[simp] def zye:IU (v::l)=(v.ns&&IU l):=(rfl)
@[simp] def zEV:(V.int k n).ns=true:=(rfl)
@[simp] def zBv:(V.bool b).ns=true:=(rfl)
@[simp] def zES:(V.str s).ns=true:=(rfl)
@[simp] def zBu:V.a8.ns=true:=(rfl)
@[simp] def zIp:(V.sl es t).ns=wy es:=(rfl)
@[simp] def zEW:(V.agg l).ns=IU l:=(rfl)
@[simp] def zyd:(V.tuple l).ns=IU l:=(rfl)
@[simp] def zET:(V.ptr i g o).ns=true:=(rfl)
@[simp] def zEU:(V.own i g o m c).ns=true:=(rfl)
@[simp] def zyf:wy []=true:=(rfl)
@[simp] def zBx {l:Z G}:wy (l.map aA)=true:=F5 l
end
@[simp] def zwI {k n:Nat} {p:V->Prop}:(∀ x,x∈jT k n->p x)↔∀ j,k<=j->j<k+n->p (.sym j) :=
  ⟨λh j M O=>h _ (Vh.2 ⟨j,⟨M,O⟩,rfl⟩),λh x W=>by
    obtain⟨j,⟨M,O⟩,rfl⟩:=Vh.1 W
    exact h j M O⟩
@[simp] def znu {π:Nat->Nat}:∀ {k n:Nat},(jT k n).map (V.jr π)=jT k n
  |_,0=>rfl
  |k,n+1=>by rw[jT,aX,znu];rfl
@[simp] def ztU {k:Nat}:w7 (.sym k)=none:=(rfl)
@[simp] def zod {i z:Nat}:∀ {k n:Nat} {l:Z V},B9 (jT k n) l i z=z
  |_,0,_=>zsY
  |k,n+1,[]=>rfl
  | k,n+1,u::l=>by
    rw[jT,zoe,zod,zx4 ztU]
@[simp] def MG.zOX {g:MG} {m:Nat}:(g.add m).a=g.a:=(rfl)
@[simp] def MG.zOS {g:MG} {m:Nat}:(g.add m).b=g.b+m:=(rfl)
@[simp] def MG.zN5 {g:MG} {m:Nat}:(g.add m).n=g.n:=(rfl)
@[simp] def zEX {l:Z bZ}:wy (l.map di)=true:=CG λe he=>by
  obtain⟨x,_,rfl⟩:=aF.1 he;simp[di]
section
variable {T:PT V}{C:HS}{k:Nat}
def aw.My (π:Nat->Nat) {TL:Z (Nat×V)} {HL:Z (Nat×Obj)} (n:Nat) (hT:∀ p∈TL,p.2.sS (cx HL)=true/\T.get p.1=some (p.2.cw π))
 (hH:∀ p∈HL,p.2.in (cx HL)=true/\∃ u,C.H.get (π p.1)=some u/\(u=p.2.cw π\/U7 u=p.2.cw π)) (hi:cj (HL.map λp=>π p.1)=true) (hk:(List.range k).all (λi=>Nat.beq (π i) i&&cx HL i)=true) :
 aw k T C (dP TL) { H:=dP HL,n:=n,log:=[] } where
 ex := by
  refine⟨π,cx HL,λid=>zh4,λt v hv=>⟨(hT (t,v) (AX hv)).1,_,(hT (t,v) (AX hv)).2,.inl rfl⟩,λid o ho=>⟨(hH (id,o) (AX ho)).1,(hH (id,o) (AX ho)).2⟩,?_,λid hid=>?_⟩;intro i j sY rB e;have eV:=Qg hi
  have key:∀ (l:Z (Nat×Obj)),(l.map λp=>π p.1).Nodup->cx l i=true->cx l j=true->i=j:=by
   intro l
   induction l with
   |nil=>intro _ h;cases h
   | cons p l ih =>
     intro eV M O;rw[aX,gK]at eV;replace M:(Nat.beq p.1 i||cx l i)=true:=M;replace O:(Nat.beq p.1 j||cx l j)=true:=O;rw[iQ,beq_true]at M O;have hm:∀ a,cx l a=true->π a∈l.map λp=>π p.1:=(by intro a ha;let⟨q,hq,zLR⟩:=dN.1 ha;exact aF.2 ⟨q,hq,by rw[beq_true.1 zLR]⟩);rcases M with M|M<;>rcases O with O|O
     rw[<- M,<- O];exact absurd (by rw[M,e];exact hm j O) eV.1;exact absurd (by rw[O,<- e];exact hm i M) eV.1;exact ih eV.2 M O
  exact key HL eV sY rB;have:=au.1 hk id (dh.2 hid);rw[aW,beq_true]at this;exact this
def aJ.My(π:Nat->Nat){v v1:V}{OL:Z (Nat×Obj)}(hi:cj (OL.map λp=>π p.1)=true)(hk:(List.range k).all (λi=>Nat.beq (π i) i&&cx OL i)=true)(hv:v1.sS (cx OL)=true/\v=v1.cw π)
 (hH:∀ p∈OL,p.2.in (cx OL)=true/\∃ u,C.H.get (π p.1)=some u/\(u=p.2.cw π\/U7 u=p.2.cw π)):aJ k v1 OL v C :=
 ⟨v1,.inl rfl,aw.My π 0 (λp hp=>by
   simp only[ag]at hp;subst hp
   exact⟨hv.1,by rw[PT.cZ,if_pos rfl,hv.2]⟩) hH hi hk⟩
end
@[simp] def zBz {s g:Nat} {es:Z (Z V)} {x z r:Bool}:U7 (.arr s g es x z r)=.arr s g (es.map fF) x z r:=(rfl)
@[simp] def zE7 {off:Nat} {args:Z V} {N:MN} {s s':MS} {ds:Z V} {l:Z V} {b c d:Nat} {C:HS} (h:J9 l=true):(DP off args N s s' ds (.agg l) b c d).vl C=.agg l:=V.jq (V.dU (show (V.agg l).pure=true from h))
@[simp] def Rx {e:Z V} {l:Z (Z V)}:wy (e::l)=(IU e&&wy l):=(rfl)
@[simp] def zBG {off:Nat} {args:Z V} {N:MN} {s s':MS} {ds:Z V} {l m:Z V} {e:Bool} {b c d:Nat} {C:HS} (h:J9 l=true) (h':J9 m=true):(DP off args N s s' ds (.tuple [.agg l,.agg m,.bool e]) b c d).vl C=.tuple [.agg l,.agg m,.bool e]:=by
  have M:∀ π:Nat->Nat,(V.agg l).jr π=.agg l:=λπ=>V.uW (V.dU (show (V.agg l).pure=true from h));have O:∀ π:Nat->Nat,(V.agg m).jr π=.agg m:=λπ=>V.uW (V.dU (show (V.agg m).pure=true from h'));show V.tuple [(V.agg l).jr _,(V.agg m).jr _,(V.bool e).jr _]=_;rw[M,O];rfl
def FF(sz:Nat)(s:Z V->Y (Z (Z V))):Spec:=λvs C=>ob (mf C vs) λij=>gd (bX ij) (ob (s (fF ij)) λes=>gd (es.all λe=>e.all V.Jj) (some (.sl es false,C)))
section
variable {I:Nat->Value}{P:Program}{f:Nat}{sz:Nat}{s:Z V->Y (Z (Z V))}
def zcl{v:V}(h:v.Jj=true):v.bN=true:=by
 cases v<;>first|rfl|cases h
def Valid.FF (hf:vM P f) (cd:sz≠0) (h:∀ vs es,bX vs=true->s vs=some es->(es.all λe=>e.all V.bN)=true->∀ C:HS,C.H.get C.n=none->aS I P f vs C (oV C.n es) (bi (Nat.beq (dB es) 0) C { H:=C.H.set C.n (oO sz es),n:=C.n+1,log:=C.n::C.log })):Valid I P f (FF sz s) where
 fn:=hf
 ok := by
  intro vs C v a9 hq;simp only[J.FF,bI,aC]at hq;let⟨ij,eK,hp,es,hv,hsc,hq⟩:=hq;cases hq;intro X w F μ xs hR hD hO hA;let⟨hlen,b7⟩:=Ko hR (F':=λb=>b<w.heap.size) hR.BR eK (λ_ _ _ _ id g off len cap _ m hm=>hR.lt id g m hm)
  have mA:Nk I w (λb=>b<w.heap.size) (λ_ _=>none) ij xs:=⟨hA.1.trans hlen.symm,λi u hi=>by
   let⟨u0,hu0,hr⟩:=b7 i u hi;let⟨x,W,z7⟩:=hA.2 i u0 hu0
   exact⟨x,W,.pure (hr x z7)⟩⟩
  have hsc2:∀ e∈es,∀ v∈e,v.Jj=true:=λe he v hv=>au.1 (au.1 hsc e he) v hv;have tG:(es.all λe=>e.all V.bN)=true:=au.2 λe he=>au.2 λv hv=>zcl (hsc2 e he v hv);have hc:=(h _ _ (y7 hp) hv tG jv rfl).norm hp;refine(hc _ w _ (λ_ _=>none) xs (R.empty (λ_ h=>h) (hR.gl.bw hR.BR λ_ _=>rfl)) Py.empty (pP.no _) mA).mono λe w' he=>?_
  cases e with
  | returned x =>
    let⟨F1,μ1,g1,g2,g3⟩:=he;have jt:∀ b,b<w.heap.size->w'.heap[b]?=w.heap[b]?:=λb hb=>g3.bw b hb (uw b _);let⟨a1,a2⟩:=alone hR g3.io g3.size jt;refine⟨_,μ,a1,.pure ?_,a2⟩;clear a1 a2 jt
    cases es with
    | nil =>
      have g2:dZ I w' F1 μ1 .a8 x:=g2
      cases g2 with
      |pure g2=>cases g2;exact .pT _ _ _ (λ_=>rfl)
    | cons e es =>
      have g2:dZ I w' F1 μ1 (.own 0 es.length 0 (es.length+1) none) x:=(by have e0:oV jv.n (e::es)=.own 0 es.length 0 (es.length+1) none:=(by simp[jv]);rw[e0]at g2;exact g2);have hb0:Nat.beq (dB (e::es)) 0=false:=(by simp);rw[hb0]at g1 g3;replace g1:R I w' F1 μ1 P { H:=jv.H.set jv.n (oO sz (e::es)),n:=jv.n+1,log:=jv.n::jv.log }:=g1;have zLM:still { H:=jv.H.set jv.n (oO sz (e::es)),n:=jv.n+1,log:=jv.n::jv.log } (.own 0 es.length 0 (es.length+1) none)=some (.sl (e::es) false):=(by simp[still,zhV,jv,cd]);have zGg:=PR g1 g2 zLM (F':=λ_=>True) (λ_ _=>trivial) (λ_ _ _ _=>trivial)
      cases g2 with
      |pure g2=>cases g2
      | own _ _ _ _ _ c m hm M O h3 h4 =>
        have hb:w.heap.size<=m.b:=(by rcases g3.mn _ _ _ hm with h|⟨_,_,_,h,_⟩;exact h;cases h);have ri:=g1.lt _ _ _ hm
        cases zGg with
        | rj _ _ _ size _ _ ys q1 q2 q3 q4 q5 q6 =>
          exact .rj (e::es) m.b 0 size c false ys (.inr ⟨hb,ri⟩) q2 q3 (λi e' j v he hv=>by
           exact Kq (μ:=μ1) (.pure (q4 i e' j v he hv)) (hsc2 _ (aI he) _ (aI hv))) q5 q6
  |panicked c=>exact he
  |outgrown=>exact he
 kept:=by
  intro vs C q hq;simp only[J.FF,bI,aC]at hq;let⟨_,_,_,_,_,_,hq⟩:=hq;cases hq;exact .refl _
variable {vs:Z V}{C:HS}{K:V×HS->Prop}
@[simp] def zMD:BO (FF sz s vs C) K=BO (mf C vs) λij=>bX ij=true/\BO (s (fF ij)) λes=>(es.all λe=>e.all V.Jj)=true/\K (.sl es false,C):=by
  show ok (FF sz s vs C) K=ok (mf C vs) λij=>bX ij=true/\ok (s (fF ij)) λes=>(es.all λe=>e.all V.Jj)=true/\K (.sl es false,C);simp only[FF,vO,iM,dL]
end
end Go.J
set_option maxRecDepth 100000
namespace Go.J
open bo (enc)
namespace ao
section
variable {n S:Nat}
def zbK{s:ao}(h:yf n S s)(hS:1<=S)(hn:n*S+S<=90000)(u5:n<=1000){t:G}(ht:iA n S t):yw s [t]:=by
 have M:=h.la hS (List.replicate s.bc.length false);have O:=ht.size;exact⟨h.mF u5,G.ny.2 (by simp[ht.ok]),by simp,by simp only[G.bj];omega⟩
def vA(w:G->G):Z G->Nat
 | []=>0
 |x::l=>sz w x 200+vA w l
def zxC{w:G->G}{l m:Z G}(h:C7 w l m):vA w l<=G.bj m:=by
 induction h with
 |nil=>exact af _
 | cons W _ ih =>
   rw[vA,TJ W,G.bj];omega
def znn{w:G->G}{a:G}(h:sz w a 200<=200):vA w (w a).args+1<=sz w a 200:=by
 let⟨r,hr,A6⟩:=zhv.1 h;let⟨m,M,O⟩:=zbl.1 hr;have h3:=zxC M;have h4:=G.size_eq r;have h5:r.args=m:=by rw[O];rfl
 rw[h5]at h4;rw[TJ hr];omega
end
end ao
end Go.J
set_option maxRecDepth 100000
namespace Go.J
open bo (enc)
variable {C:HS}{i:Int}{B d g:Nat}{π:Nat->Nat}{t:Tp}{α:Type}{cT:Z (Z V)}{D:Z Decl}{a b o:Z Int}{n:Z Nat}{vs:Z V}
namespace ao
theorem zf2(s:ao)(a b:G):∃ m,kB s (s.mG a b).2.2 m:=by
 unfold mG;split;exact⟨0,.refl _ _⟩;split;exact⟨0,.refl _ _⟩;split;grind [Yu,FZ];split;grind [FZ];split;exact⟨0,.refl _ _⟩;exact⟨0,.refl _ _⟩
def JI (d:Nat):∀ (f:Nat) {s:ao} {l:Z bZ} {r:ao×Int},lQ d f s l=some r->∃ m,kB s r.1 m:=by
 intro f
 induction f with
 |zero=>intro s l r h;cases h
 | succ f ih =>
   intro s l r h
   cases l with
   |nil=>rw[lQ]at h;cases h;exact⟨0,.refl _ _⟩
   | cons e l =>
     rw[lQ]at h;split at h;let⟨m,hm⟩:=zf2 s e.left e.right;split at h;let⟨m2,kj⟩:=ih h;exact⟨_,hm.trans kj⟩;cases h;exact⟨m,hm⟩;cases h
end ao
def BV(es:Z (Z V))(sz:Nat)(tg:Bool):EmbD where
 k:=0
 k':=1
 π:=λi=>i
 OL:=[]
 cJ:=[(0,.arr sz 0 es false false true)]
 eb:=[.sl es tg]
 v0:=.own 0 0 0 es.length none
def M8(sz:Nat)(vs:Z V)(C:HS):Y EmbD:=match vs with
 | [.sl es tg]=>gd (et (nt (Nat.beq (dB es) 0)) (et (Nat.ble (dB es) 1000) (et (es.all λe=>et (Nat.beq (dB e) sz) (e.all V.bN)) (et (kJ es) (gW C C.n))))) (some (BV es sz tg))
 |_=>none
def Wm{sz:Nat}{D:EmbD}(h:M8 sz vs C=some D):∃ es tg,es≠[]/\es.length<=1000/\(∀ e∈es,e.length=sz/\e.all V.bN=true)/\kJ es=true/\D=BV es sz tg/\D.Good/\D.Fits vs C:=by
 unfold M8 at h;split at h;rename_i es tg;simp only[bI,dz,jQ,beq_false,gM,dH,aK]at h;let⟨⟨M,O,h3,h6,h4⟩,h⟩:=h;cases h;have h5:∀ e∈es,e.length=sz/\e.all V.bN=true:=λe he=>by have:=au.1 h3 e he;simp only[dz,beq_true,dH]at this;exact this
 refine⟨es,tg,λe=>M (by rw[e];rfl),O,h5,h6,rfl,⟨rfl,rfl,aZ _,(λp hp=>by cases hp),λp hp=>?_,rfl,λv hv=>?_⟩,rfl,λi j hi=>?_,(λp hp=>by cases hp),λi hi=>?_,λi hi=>?_⟩;simp only[BV,ag]at hp;subst hp;exact⟨au.2 λe he=>(h5 e he).2,rfl⟩;simp only[BV,ag]at hv;subst hv;rfl;simp only[BV]at hi;omega;simp only[BV]at hi;have:i=0:=by omega
 subst this;exact h4;simp only[BV]at hi;omega;cases h
section
variable {es:Z (Z V)}{sz:Nat}{tg:Bool}
@[simp] def zzH:(BV es sz tg).val C=.own C.n 0 0 es.length none:=(rfl)
def Si(h:∀ e∈es,e.all V.bN=true):(BV es sz tg).heap C={ H:=C.H.set C.n (.arr sz 0 es false false true),n:=C.n+1,log:=C.n::C.log }:=by
 have e1:(es.map λe=>e.map (V.jr (news C.n 0 λi=>i)))=es:=AY λe he v hv=>V.jF (au.1 (h e he) v hv);show ({ H:=C.H.set (news C.n 0 (λi=>i) 0) (.arr sz 0 (es.map λe=>e.map (V.jr (news C.n 0 λi=>i))) false false true),n:=C.n+1,log:=[news C.n 0 (λi=>i) 0]++C.log }:HS)=_;rw[e1];rfl
@[simp] def zGS:M8 sz [.sl es tg] C=gd (et (nt (Nat.beq (dB es) 0)) (et (Nat.ble (dB es) 1000) (et (es.all λe=>et (Nat.beq (dB e) sz) (e.all V.bN)) (et (kJ es) (gW C C.n))))) (some (BV es sz tg)):=(rfl)
end
def gY(f:α->Bool):Z α->Int->Int
 | [],_=>-1
 |x::l,i=>if f x=true then i else gY f l (i+1)
def AZ(f:α->Bool):∀ (l:Z α) (i:Int),0<=i->decide (0<=gY f l i)=l.any f:=by
 intro l
 induction l with
 |nil=>intro i h;simp[gY]
 | cons y l ih =>
   intro i h;rw[gY];split;rename_i e;simp[e,h];rename_i e;rw[ih (i+1) (by omega)];simp[e]
def zH(n:Z Nat):Xp:=.mk 1 0 n 0 [] [] wI
def SG(n:Z Nat):Xp:=.mk 2 0 n 0 [] [] wI
def Xd(n:Z Nat)(b:Xp):Xp:=.mk 4 0 n 0 [b] [] wI
def Ue(f a:Xp):Xp:=.mk 5 0 [] 0 [f,a] [] wI
def zM(e:Xp)(l:Z Am):Xp:=.mk 8 0 [] 0 [e] l wI
def O4(j:Nat):Z Nat:=([[115],[116],[117],[118]][j % 4]?).getD []
def j6(n:Nat):Z (Z Nat):=(List.range n).map O4
def zbc(n:Nat):j6 (n+1)=j6 n++[O4 n]:=by simp[j6,List.range_succ]
@[simp] def BA (n:Nat):(j6 n).length=n:=by simp[j6]
def mW(z:α)(l:Z α)(i:Int):α:=(l[i.toNat]?).getD z
def zR:Decl:=⟨0,[],[],[]⟩
def JU:Ctor:=⟨0,[],[]⟩
mutual
def gp:Nat->Tp->Z Decl->Z (Z Nat)->Tp×Xp
 | 0,t,D,N=>zP 0 (t.next 8).1 D N
 | d + 1,t,D,N =>
   let k:=(t.next 8).2;let t1:=(t.next 8).1
   if k<2 then
    let r:=gp d t1 D (N++[[119]])
    (r.1,Xd [119] r.2)
   else if k=2/\D≠[]/\N≠[]then
    let a:=t1.next D.length;let dd:=mW zR D a.2;let b:=a.1.next N.length;let r:=kI d b.1 D N dd.ctors dd.ctors.length
    (r.1,zM (zH (mW [] N b.2)) r.2)
   else zP (d+1) t1 D N
 termination_by d=>(d,2,0)
def kI (d:Nat) (t:Tp) (D:Z Decl) (N:Z (Z Nat)) (cs:Z Ctor):Nat->Tp×Z Am
 | 0=>(t,[])
 | i+1 =>
   let p:=kI d t D N cs i;let c:=(cs[i]?).getD JU;let r:=gp d p.1 D (N++j6 c.fields.length)
   (r.1,p.2++[.mk 0 c.name (j6 c.fields.length) r.2])
 termination_by i=>(d,3,i)
def zP (d:Nat) (t:Tp) (D:Z Decl) (N:Z (Z Nat)):Tp×Xp :=
 let p:=if N≠[]then ((t.next N.length).1,zH (mW [] N (t.next N.length).2))else (t,zH [120])
 let q := if D≠[]then
     (if (p.1.next 2).2=0 then
       let a:=(p.1.next 2).1.next D.length;let dd:=mW zR D a.2;let b:=a.1.next dd.ctors.length
       (b.1,SG (mW JU dd.ctors b.2).name)
     else ((p.1.next 2).1,p.2))
  else p
 match d with
 | 0=>((q.1.next 3).1,q.2)
 |d+1=>lJ d (q.1.next 3).1 D N q.2 (q.1.next 3).2.toNat
 termination_by (d,1,0)
def lJ (d:Nat) (t:Tp) (D:Z Decl) (N:Z (Z Nat)) (e:Xp):Nat->Tp×Xp
 | 0=>(t,e)
 | i+1 =>
   let p:=lJ d t D N e i;let r:=gp d p.1 D N
   (r.1,Ue p.2 r.2)
 termination_by i=>(d,3,i)
end
def Se(D:Z Decl):Prop:=zAA D/\∀ d∈D,d.ctors≠[]/\d.ctors.length<=100/\∀ c∈d.ctors,c.fields.length<=100
def EJ(bits:Int):Se (bA bits):=by
 refine⟨zgl bits,λd hd=>?_⟩;have key:∀ d∈La,d.ctors≠[]/\d.ctors.length<=100/\∀ c∈d.ctors,c.fields.length<=100:=by decide
 exact key d (kH hd)
section
theorem WE(ih:∀ (t:Tp) (N:Z (Z Nat)),t.ok->(gp d t D N).1.ok)(h:t.ok)(N:Z (Z Nat))(cs:Z Ctor)(i:Nat):(kI d t D N cs i).1.ok/\(kI d t D N cs i).2.length=i:=by
 induction i with
 |zero=>rw[kI];exact⟨h,rfl⟩
 | succ i RE =>
   grind [kI]
theorem zd8(ih:∀ (t:Tp) (N:Z (Z Nat)),t.ok->(gp d t D N).1.ok)(h:t.ok)(N:Z (Z Nat))(e:Xp)(i:Nat):(lJ d t D N e i).1.ok:=by
 induction i with
 |zero=>rw[lJ];exact h
 |succ i RE=>rw[lJ];exact ih _ _ RE
theorem zdg(ih:∀ d',d=d'+1->∀ (t:Tp) (N:Z (Z Nat)),t.ok->(gp d' t D N).1.ok)(h:t.ok)(N:Z (Z Nat)):(zP d t D N).1.ok:=by
 rw[zP.eq_def];grind [zH,mW,iE,zR,SG,JU,zd8]
theorem Um:∀ (d:Nat) (t:Tp) (N:Z (Z Nat)),t.ok->(gp d t D N).1.ok:=by
 intro d
 induction d with
 | zero =>grind [gp,zdg,iE]
 | succ d ih =>
   grind [gp,iE,WE,zdg]
end
mutual
def Xp.depth:Xp->Nat
 |.mk _ _ _ _ ks as _=>1+max (Xp.lM ks) (Am.lM as)
def Xp.lM:Z Xp->Nat
 | []=>0
 |x::l=>max x.depth (Xp.lM l)
def Am.lM:Z Am->Nat
 | []=>0
 |.mk _ _ _ b::l=>max b.depth (Am.lM l)
end
mutual
def Xp.wide(B:Nat):Xp->Bool
 |.mk _ _ _ _ ks as _=>decide (ks.length<=B)&&decide (as.length<=B)&&Xp.nW B ks&&Am.nW B as
def Xp.nW(B:Nat):Z Xp->Bool
 | []=>true
 |x::l=>x.wide B&&Xp.nW B l
def Am.nW(B:Nat):Z Am->Bool
 | []=>true
 |.mk _ _ _ b::l=>b.wide B&&Am.nW B l
end
def Xp.iY(x:Xp):x.depth=1+max (Xp.lM x.kids) (Am.lM x.b8):=by cases x;rw[Xp.depth];rfl
def Xp.Eo(B:Nat)(x:Xp):x.wide B=(decide (x.kids.length<=B)&&decide (x.b8.length<=B)&&Xp.nW B x.kids&&Am.nW B x.b8):=by cases x;rw[Xp.wide];rfl
def Xp.M3{l:Z Xp}{x:Xp}(h:x∈l):x.depth<=Xp.lM l:=by
 induction l with
 |nil=>cases h
 | cons y l ih =>
   rw[Xp.lM];rcases ay.1 h with rfl|h;exact iP _ _;exact aO (ih h) (jO _ _)
def Am.M3{l:Z Am}{a:Am}(h:a∈l):a.body.depth<=Am.lM l:=by
 induction l with
 |nil=>cases h
 | cons y l ih =>
   cases y;rw[Am.lM];rcases ay.1 h with rfl|h;exact iP _ _;exact aO (ih h) (jO _ _)
def Xp.PG{l:Z Xp}(hl:Xp.nW B l=true){x:Xp}(h:x∈l):x.wide B=true:=by
 induction l with
 |nil=>cases h
 | cons y l ih =>
   rw[Xp.nW,aW]at hl;rcases ay.1 h with rfl|h;exact hl.1;exact ih hl.2 h
def Am.PG{l:Z Am}(hl:Am.nW B l=true){a:Am}(h:a∈l):a.body.wide B=true:=by
 induction l with
 |nil=>cases h
 | cons y l ih =>
   cases y;rw[Am.nW,aW]at hl;rcases ay.1 h with rfl|h;exact hl.1;exact ih hl.2 h
def Xp.lH{x k:Xp}(h:k∈x.kids):k.depth<x.depth:=by
 have:=Xp.M3 h;rw[Xp.iY x];omega
def Xp.vF{x:Xp}{a:Am}(h:a∈x.b8):a.body.depth<x.depth:=by
 have:=Am.M3 h;rw[Xp.iY x];omega
def Xp.Dk{x:Xp}(h:x.wide B=true):x.kids.length<=B/\x.b8.length<=B/\(∀ k∈x.kids,k.wide B=true)/\∀ a∈x.b8,a.body.wide B=true:=by
 rw[Xp.Eo,aW,aW,aW,decide_eq_true_eq,decide_eq_true_eq]at h;exact⟨h.1.1.1,h.1.1.2,λk hk=>Xp.PG h.1.2 hk,λa ha=>Am.PG h.2 ha⟩
def x0:Xp:=.mk 0 0 [] 0 [] [] wI
def Xp.isApp(x:Xp):Bool:=decide (x.kind=5)&&decide (x.kids.length=2)
def Xp.fn(x:Xp):Xp:=(x.kids[0]?).getD x0
def Xp.arg(x:Xp):Xp:=(x.kids[1]?).getD x0
def Xp.xV{x:Xp}:x.isApp=true↔x.kind=5/\x.kids.length=2:=by simp[Xp.isApp]
def Xp.WI{x:Xp}(h:x.isApp=true):x.kids=[x.fn,x.arg]:=by
 let⟨_,h⟩:=Xp.xV.1 h;unfold Xp.fn Xp.arg;generalize x.kids=l at h ⊢
 match l,h with
 | [a,b],_=>rfl
def Xp.G9{x:Xp}(h:x.isApp=true):x.fn∈x.kids:=by rw[Xp.WI h];simp
def Xp.zbd{x:Xp}(h:x.isApp=true):x.arg∈x.kids:=by rw[Xp.WI h];simp
def BN:Nat->Xp->Xp×Z Xp
 | 0,e=>(e,[])
 |d+1,e=>if e.isApp=true then ((BN d e.fn).1,(BN d e.fn).2++[e.arg])else (e,[])
def dE(e:Xp):Xp×Z Xp:=BN e.depth e
def zb8:∀ (d:Nat) (e:Xp),e.depth<=d->BN d e=BN (d+1) e:=by
 intro d
 induction d with
 |zero=>intro e h;rw[Xp.iY]at h;omega
 | succ d ih =>
   intro e h;by_cases ha:e.isApp=true;have:=Xp.lH (Xp.G9 ha);rw[BN,if_pos ha,BN,if_pos ha,<- ih _ (by omega)];rw[BN,if_neg ha,BN,if_neg ha]
def zjF{e:Xp}(h:e.depth<=d):BN d e=dE e:=by
 obtain⟨k,rfl⟩:=Nat.le.dest h
 induction k with
 |zero=>rfl
 |succ k ih=>rw[<- eH,<- zb8 _ _ (by omega),ih (by omega)]
def uq{e:Xp}(h:e.isApp=true):dE e=((dE e.fn).1,(dE e.fn).2++[e.arg]):=by
 have hd:=Xp.lH (Xp.G9 h);obtain⟨d,ld⟩:∃ d,e.depth=d+1:=⟨e.depth-1,by omega⟩;rw[dE,ld,BN,if_pos h,zjF (by omega)]
def rz{e:Xp}(h:¬ e.isApp=true):dE e=(e,[]):=by
 rw[dE,Xp.iY,nD,BN,if_neg h]
def nS(e:Xp):(dE e).1.depth<=e.depth/\(∀ a∈(dE e).2,a.depth<e.depth)/\(dE e).2.length<e.depth:=by
 generalize hd:e.depth=d
 induction d using Nat.strongRecOn generalizing e with
 | _ d ih =>
   by_cases h:e.isApp=true;have M:=Xp.lH (Xp.G9 h);have O:=Xp.lH (Xp.zbd h);let⟨i1,i2,i3⟩:=ih _ (by omega) e.fn rfl;rw[uq h];refine⟨by show (dE e.fn).1.depth<=d;omega,λa ha=>?_,by simp;omega⟩;rcases bu.1 ha with ha|ha;have:=i2 a ha;omega;rw[ag]at ha;subst ha;omega;rw[rz h];have:=Xp.iY e;exact⟨by show e.depth<=d;omega,λa ha=>by simp at ha,by simp;omega⟩
def zb9{e:Xp}(hw:e.wide B=true):(dE e).1.wide B=true/\∀ a∈(dE e).2,a.wide B=true:=by
 generalize hd:e.depth=d
 induction d using Nat.strongRecOn generalizing e with
 | _ d ih =>
   by_cases h:e.isApp=true;have M:=Xp.lH (Xp.G9 h);have hp:=(Xp.Dk hw).2.2.1;let⟨i1,i2⟩:=ih _ (by omega) (hp _ (Xp.G9 h)) rfl;rw[uq h];refine⟨i1,λa ha=>?_⟩;rcases bu.1 ha with ha|ha;exact i2 a ha;rw[ag]at ha;subst ha;exact hp _ (Xp.zbd h);rw[rz h];exact⟨hw,λa ha=>by simp at ha⟩
mutual
def Xp.wf:Xp->Bool
 |.mk k _ _ _ ks as _=>(if k=5 then decide (ks.length=2)else if k=4\/k=8 then decide (ks.length=1)else true)&&Xp.zv ks&&Am.zv as
def Xp.zv:Z Xp->Bool
 | []=>true
 |x::l=>x.wf&&Xp.zv l
def Am.zv:Z Am->Bool
 | []=>true
 |.mk _ _ _ b::l=>b.wf&&Am.zv l
end
def Xp.zhi(x:Xp):x.wf=((if x.kind=5 then decide (x.kids.length=2)else if x.kind=4\/x.kind=8 then decide (x.kids.length=1)else true)&&Xp.zv x.kids&&Am.zv x.b8):=by cases x;rw[Xp.wf];rfl
def Ff:Nat->Xp->Bool
 | 0,_=>false
 | d+1,e =>
   if e.kind=1\/e.kind=2 then true
   else if e.kind=4 then decide (e.kids.length=1)&&Ff d e.fn
   else if e.kind=8 then decide (e.kids.length=1)&&decide (e.fn.kind=1)&&e.b8.all λa=>Ff d a.body
   else if e.kind=5 then decide ((dE e).1.kind=1\/(dE e).1.kind=2)&&(dE e).2.all (Ff d)
   else false
def iL(e:Xp):Bool:=Ff e.depth e
def uN{f g:α->Bool}{l:Z α}(h:∀ x∈l,f x=g x):l.all f=l.all g:=by
 induction l with
 |nil=>rfl
 |cons a l ih=>rw[iG,iG,h a aB,ih λx W=>h x (aD _ W)]
def Xp.zdn{e:Xp}(h:e.kids≠[]):e.fn.depth<e.depth:=by
 refine Xp.lH ?_;unfold Xp.fn
 cases hk:e.kids with
 |nil=>exact absurd hk h
 |cons a l=>simp
def zcf:∀ (d:Nat) (e:Xp),e.depth<=d->Ff d e=Ff (d+1) e:=by
 intro d
 induction d with
 |zero=>intro e h;rw[Xp.iY]at h;omega
 | succ d ih =>
   intro e h;rw[Ff,Ff];split;rfl;split;by_cases hk:e.kids.length=1;have:=Xp.zdn (e:=e) (λh0=>by rw[h0]at hk;cases hk);rw[ih _ (by omega)];simp[hk];split;congr 1;refine uN λa ha=>?_;have:=Xp.vF ha;exact ih _ (by omega);split;congr 1;refine uN λa ha=>?_;have:=(nS e).2.1 a ha;exact ih _ (by omega);rfl
def PW{e:Xp}(h:e.depth<=d):Ff d e=iL e:=by
 obtain⟨k,rfl⟩:=Nat.le.dest h
 induction k with
 |zero=>rfl
 |succ k ih=>rw[<- eH,<- zcf _ _ (by omega),ih (by omega)]
def zV (e:Xp):iL e=if e.kind=1\/e.kind=2 then true
 else if e.kind=4 then decide (e.kids.length=1)&&iL e.fn
 else if e.kind=8 then decide (e.kids.length=1)&&decide (e.fn.kind=1)&&e.b8.all λa=>iL a.body
 else if e.kind=5 then decide ((dE e).1.kind=1\/(dE e).1.kind=2)&&(dE e).2.all iL
 else false:=by
 obtain⟨d,hd⟩:∃ d,e.depth=d+1:=⟨e.depth-1,by have:=Xp.iY e;omega⟩;rw[iL,hd,Ff];split;rfl;split;by_cases hk:e.kids.length=1;have:=Xp.zdn (e:=e) (λh0=>by rw[h0]at hk;cases hk);rw[PW (by omega)];simp[hk];split;congr 1;refine uN λa ha=>?_;have:=Xp.vF ha;exact PW (by omega);split;congr 1;refine uN λa ha=>?_;have:=(nS e).2.1 a ha;exact PW (by omega);rfl
def Xp.N8{e:Xp}(h:e.kids.length=1):e.kids=[e.fn]:=by
 unfold Xp.fn;generalize e.kids=l at h ⊢
 match l,h with
 | [a],_=>rfl
def ziX(f:α->Bool)(l:Z α):(l.any λx=>!f x)=!l.all f:=by
 induction l with
 |nil=>rfl
 |cons a l ih=>rw[qD,iG,ih,Bool.not_and]
def WK{f g:α->Bool}{l:Z α}(h:∀ x∈l,f x=g x):l.any f=l.any g:=by
 induction l with
 |nil=>rfl
 |cons a l ih=>rw[qD,qD,h a aB,ih λx W=>h x (aD _ W)]
def Xp.fit(d:Nat)(e:Xp):Prop:=e.depth<=d/\e.depth<=1000/\e.wide 100000=true
instance (d:Nat)(e:Xp):Decidable (e.fit d):=inferInstanceAs (Decidable (_/\_/\_))
def Xp.fit.kid{e k:Xp}(h:e.fit (d+1))(hk:k∈e.kids):k.fit d:=by
 have:=Xp.lH hk;exact⟨by have:=h.1;omega,by have:=h.2.1;omega,(Xp.Dk h.2.2).2.2.1 k hk⟩
def Xp.fit.arm{e:Xp}{a:Am}(h:e.fit (d+1))(hk:a∈e.b8):a.body.fit d:=by
 have:=Xp.vF hk;exact⟨by have:=h.1;omega,by have:=h.2.1;omega,(Xp.Dk h.2.2).2.2.2 a hk⟩
def Xp.fit.arg{d:Nat}{e a:Xp}(h:e.fit (d+1))(ha:a∈(dE e).2):a.fit d:=by
 have:=(nS e).2.1 a ha;exact⟨by have:=h.1;omega,by have:=h.2.1;omega,(zb9 h.2.2).2 a ha⟩
def BX(e:Xp):Z Xp:=e.kids++e.b8.map Am.body
def Hp(n:Z Nat):Bool:=(G.mk 4 n 0 0 []).valid
def E5(e:Xp):Prop:=e.pos=0/\e.num=0/\e.type=wI /\
 ((e.kind=1/\jC e.name=true/\e.kids=[]/\e.b8=[])\/(e.kind=2/\Hp e.name=true/\e.kids=[]/\e.b8=[]) \/
  (e.kind=4/\jC e.name=true/\e.kids.length=1/\e.b8=[])\/(e.kind=5/\e.name=[]/\e.kids.length=2/\e.b8=[]) \/
  (e.kind=8/\e.name=[]/\e.kids.length=1/\e.b8≠[]/\e.b8.length<=100)) /\
 ∀ a∈e.b8,a.pos=0/\Hp a.dA=true/\a.vars.length<=4/\∀ v∈a.vars,jC v=true
def F9{e x:Xp}(h:x∈BX e):x.depth<e.depth:=by
 rcases bu.1 h with h|h;exact Xp.lH h;obtain⟨a,ha,rfl⟩:=aF.1 h;exact Xp.vF ha
theorem yu{e:Xp}(h:E5 e):e.kids.length<=2/\e.b8.length<=100/\(e.kids=[]->e.b8=[]):=by
 let⟨_,_,_,h,_⟩:=h;grind
def fO(x:Xp)(i:Nat):Z (Z Nat):=if x.kind=4\/x.kind=7 then [x.name]else if x.kind=6 then (if i=1 then [x.name]else [])else if x.kind=8/\x.kids.length<=i then ((x.b8[i-x.kids.length]?).map Am.vars).getD []else []
def Mq(rec:Z (Z Nat)->Xp->Bool)(N:Z (Z Nat))(x:Xp):Nat->Z Xp->Bool
 |_,[]=>true
 |i,y::l=>rec (N++fO x i) y&&Mq rec N x (i+1) l
def Cz:Nat->Z (Z Nat)->Xp->Bool
 | 0,_,_=>true
 |n+1,N,x=>(if x.kind=1 then decide (x.name∈N)else true)&&Mq (Cz n) N x 0 (BX x)
def Ht {x:Xp} (h:E5 x) (i:Nat):(fO x i).length<=4:=by
 unfold fO;split;simp;split;split<;>simp
 split
 cases ha:x.b8[i-x.kids.length]? with
 |none=>simp
 |some a=>exact(h.2.2.2.2 a (aI ha)).2.2.1
 simp
def Fv(b:Bool):V:=.agg [.int .i64 (if b then 0 else 9),.int .i64 0]
@[simp] def zwJ:Fv true=.agg [.int .i64 0,.int .i64 0]:=(rfl)
@[simp] def zum:Fv false=.agg [.int .i64 9,.int .i64 0]:=(rfl)
def Fj(id g sz:Nat)(es cT:Z (Z V)):EmbD where
 k:=1
 k':=1
 π:=λ_=>id
 OL:=[(0,.arr sz g es false false true)]
 cJ:=[(0,.arr sz g cT false false true)]
 eb:=[.own 0 g 0 es.length none]
 v0:=.tuple []
def FP:EmbD where
 k:=0
 k':=0
 π:=λi=>i
 OL:=[]
 cJ:=[]
 eb:=[.a8]
 v0:=.tuple []
section
variable [iI α]
def zn3 (sz:Nat) (F:Z α->Y (Z α)) (vs:Z V) (C:HS):Y EmbD:=match vs with
 | [.a8]=>some FP
 | [.own id g 0 n none]=>ob (C.H.get id) λo=>match o with
   |.arr s h es false false true=>gd (et (Nat.beq s sz) (et (Nat.beq h g) (et (Nat.beq n (dB es)) (Nat.blt id C.n)))) (ob (eZ es) λl=>ob (F l) λl'=>some (Fj id g sz es (l'.map iI.cells)))
   |_=>none
 |_=>none
def zn2{sz:Nat}{F:Z α->Y (Z α)}{D:EmbD}(h:zn3 sz F vs C=some D) :
 (D=FP/\vs=[.a8])\/∃ id g,∃ l l':Z α,F l=some l'/\D=Fj id g sz (l.map iI.cells) (l'.map iI.cells)/\vs=[.own id g 0 l.length none]/\C.H.get id=some (.arr sz g (l.map iI.cells) false false true)/\id<C.n:=by
 unfold zn3 at h;split at h;cases h;exact .inl ⟨rfl,rfl⟩;rename_i id g n;rw[aC]at h;let⟨o,ho,h⟩:=h;split at h;rename_i s h' es;simp only[bI,dz,beq_true,gz,aC,dH]at h;let⟨⟨M,O,h3,h4⟩,l,hl,l',Bs,h⟩:=h;cases h;subst M O h3;obtain rfl:=iZ hl;exact .inr ⟨id,h',l,l',Bs,rfl,by simp,ho,h4⟩;cases h;cases h
def zj1:FP.Good:=⟨rfl,rfl,af _,(λp hp=>by cases hp),(λp hp=>by cases hp),rfl,λv hv=>by simp only[FP,ag]at hv;subst hv;rfl⟩
def zj2(C:HS):FP.Fits [.a8] C:=⟨rfl,(λi j hi=>by simp only[FP]at hi;omega),(λp hp=>by cases hp),(λi hi=>by simp only[FP]at hi;omega),λi hi=>by simp only[FP]at hi;omega⟩
def zj3{id sz:Nat}{l l':Z α}:(Fj id g sz (l.map iI.cells) (l'.map iI.cells)).Good:=by
 refine⟨rfl,rfl,af _,λp hp=>?_,λp hp=>?_,rfl,λv hv=>?_⟩;simp only[Fj,ag]at hp;subst hp;exact nG l;simp only[Fj,ag]at hp;subst hp;exact⟨nG l',rfl⟩;simp only[Fj,ag]at hv;subst hv;rfl
def Y2{l:Z α}:((l.map iI.cells).map λe=>e.map (V.jr π))=l.map iI.cells:=uH (nG l)
def zj4{id sz:Nat}{l:Z α}(hg:C.H.get id=some (.arr sz g (l.map iI.cells) false false true))(hi:id<C.n):(Fj id g sz (l.map iI.cells) cT).Fits [.own id g 0 l.length none] C:=by
 refine⟨by simp only[Fj,aN];rfl,λi j M O _=>?_,λp hp=>?_,λi h=>?_,λi h=>hi⟩;simp only[Fj]at M O;omega;simp only[Fj,ag]at hp;subst hp;show C.H.get id=some (.arr sz g ((l.map iI.cells).map λe=>e.map (V.jr (λ_=>id))) false false true);rw[Y2];exact hg;simp only[Fj]at h;omega
@[simp] def zEb :FP.val C=.tuple []:=(rfl)
@[simp] def zA4 :FP.heap C=C:=(rfl)
@[simp] def zEd {id sz:Nat} {es:Z (Z V)} :(Fj id g sz es cT).val C=.tuple []:=(rfl)
def P6{id sz:Nat}{es:Z (Z V)}{l':Z α}:(Fj id g sz es (l'.map iI.cells)).heap C=C.wr id (.arr sz g (l'.map iI.cells) false false true):=by
 show ({ H:=C.H.set (news C.n 1 (λ_=>id) 0) (.arr sz g ((l'.map iI.cells).map λe=>e.map (V.jr (news C.n 1 λ_=>id))) false false true),n:=C.n+0,log:=[news C.n 1 (λ_=>id) 0]++C.log }:HS)=_;rw[Y2];rfl
@[simp] def zEc {sz:Nat} {F:Z α->Y (Z α)} :zn3 sz F [.a8] C=some FP:=(rfl)
def zn1{sz:Nat}{F:Z α->Y (Z α)}{id n:Nat}{l l':Z α}(hg:C.H.get id=some (.arr sz g (l.map iI.cells) false false true))(hn:n=l.length)(hi:id<C.n)(hF:F l=some l') :
 zn3 sz F [.own id g 0 n none] C=some (Fj id g sz (l.map iI.cells) (l'.map iI.cells)):=by
 show ob (C.H.get id) _=_;rw[hg];subst hn;have e1:Nat.beq sz sz=true:=beq_true.2 rfl;have e2:Nat.beq g g=true:=beq_true.2 rfl;have e3:Nat.beq l.length (dB (l.map iI.cells))=true:=beq_true.2 (by simp);have e4:Nat.blt id C.n=true:=gz.2 hi;show gd (et (Nat.beq sz sz) (et (Nat.beq g g) (et (Nat.beq l.length (dB (l.map iI.cells))) (Nat.blt id C.n)))) (ob (eZ (l.map iI.cells)) λl=>ob (F l) λl'=>some (Fj id g sz _ (l'.map iI.cells)))=_;rw[e1,e2,e3,e4,qL];show ob (F l) _=_;rw[hF];rfl
end
def Mn(l:Z α)(i:Nat)(L:Z α):Prop:=L.length=l.length/\∀ k,k<l.length->L[k]?=if k<i\/l.length-1-i<k then l[l.length-1-k]? else l[k]?
def Mn.start(l:Z α):Mn l 0 l:=⟨rfl,λk hk=>by rw[if_neg (by omega)]⟩
def Mn.done{l L:Z α}{i:Nat}(h:Mn l i L)(hi:l.length<=2*i+1):L=l.reverse:=by
 apply o8;intro k;by_cases hk:k<l.length
 rw[h.2 k hk,List.getElem?_reverse hk];split;rfl;congr 1;omega;rw[jS (by rw[h.1];omega),jS (by simp;omega)]
def Mn.step{α:Type}{l L:Z α}{i:Nat}(h:Mn l i L)(hi:2*i+1<l.length)(M:i<L.length)(O:l.length-1-i<L.length):Mn l (i+1) ((L.set i L[l.length-1-i]).set (l.length-1-i) L[i]):=by
 have e1:=h.2 i (by omega);have e2:=h.2 (l.length-1-i) (by omega);rw[if_neg (by omega),az M]at e1;rw[if_neg (by omega),az O]at e2;refine⟨by simp[h.1],λk hk=>?_⟩;rw[mR,mR];by_cases k1:l.length-1-i=k;subst k1;rw[if_pos rfl,if_pos (by simpa using O),if_pos (by omega),e1];congr 1;omega;rw[if_neg k1];by_cases k2:i=k;subst k2;rw[if_pos rfl,if_pos M,if_pos (by omega),e2];rw[if_neg k2,h.2 k hk];by_cases k3:k<i\/l.length-1-i<k;rw[if_pos k3,if_pos (by omega)];rw[if_neg k3,if_neg (by omega)]
def gX(b6:Z Int)(D:Z Decl):Z Entry×G×Xp×Tp :=
 let c:=lW ⟨b6,0⟩ D;let r:=gp 3 c.1 D (c.2.1.map (·.name))
 (c.2.1,c.2.2,r.2,r.1)
def EK(h:t.ok):(lW t D).1.ok/\(lW t D).2.1.length<=3:=by
 have M:=iE h 4;have O:=yL t 4;have h3:=AV t (n:=4) (by omega);have h4:=za5 (D:=D) M (t.next 4).2.toNat;unfold lW;exact⟨(Nw _ _ h4.1).1,by show (Fx D (t.next 4).1 (t.next 4).2.toNat).2.length<=3;omega⟩
def zlA(hD:L7 D):∀ (t:Tp) (Lv:Z G),(∀ l∈Lv,l.ok=true/\l.size<=1)->(jk 2 t D Lv).2.ok=true/\(jk 2 t D Lv).2.size<=1000:=λt Lv hl =>
 ⟨Ul hD (λl h=>(hl l h).1) 2 t,by have:=Dl hD (λl h=>(hl l h).2) 2 t;omega⟩
def pR:Z Int->Z Int->Z Int
 |out,[]=>out
 |out,i::l=>pR (if i∈out then out else out++[i]) l
theorem zjt(o a:Z Int)(i:Int):pR o (a++[i])=if i∈pR o a then pR o a else pR o a++[i]:=by
 induction a generalizing o with
 |nil=>rfl
 |cons x a ih=>exact ih _
theorem zoK:i∈pR o a↔i∈o\/i∈a:=by
 induction a generalizing o with
 |nil=>simp[pR]
 | cons x a ih =>
   rw[pR,ih];grind
theorem Mf(o a b:Z Int):pR o (pR a b)=pR (pR o a) b:=by
 induction b generalizing a with
 |nil=>rfl
 | cons i b ih =>
   grind [pR,zoK,zjt]
theorem zeH(h:o.Nodup):(pR o a).Nodup:=by
 induction a generalizing o with
 |nil=>exact h
 | cons i a ih =>
   rw[pR];grind
theorem znf(h:a.Nodup):pR [] a=a:=by
 have key:∀ (a o:Z Int),(o++a).Nodup->pR o a=o++a:=by
  intro a
  induction a with
  |nil=>intro o _;simp[pR]
  | cons i a ih =>grind [List.nodup_append,List.mem_cons_self,pR]
 grind
theorem zbS(o a:Z Int):(pR o a).length<=o.length+a.length:=by
 induction a generalizing o with
 |nil=>simp[pR]
 | cons i a ih =>
   grind [pR]
mutual
def G.En:G->Y (Z Int)
 |.mk k _ i _ l=>if k=2 then some [i]else if k=5 then none else G.xY l []
def G.xY:Z G->Z Int->Y (Z Int)
 | [],out=>some out
 | t::l,out=>match t.En with
   |none=>none
   |some b=>G.xY l (pR out b)
end
mutual
def G.KU:G->Z Int->Z Int
 |.mk k _ i _ l,out=>G.Ig l (if k=2/\i ∉ out then out++[i]else out)
def G.Ig:Z G->Z Int->Z Int
 | [],out=>out
 |t::l,out=>G.Ig l (t.KU out)
end
mutual
def G.rU(q:Int):G->Bool
 |.mk k _ _ _ l=>decide (k=q)||G.wQ q l
def G.wQ(q:Int):Z G->Bool
 | []=>false
 |t::l=>t.rU q||G.wQ q l
end
mutual
def G.closed(b:Bool):G->Bool
 |.mk k _ _ _ l=>(decide (k=4)||decide (k=3)||b&&decide (k=2))&&G.Bb b l
def G.Bb(b:Bool):Z G->Bool
 | []=>true
 |t::l=>t.closed b&&G.Bb b l
end
theorem G.zuY(t:G):t.En=if t.kind=2 then some [t.id]else if t.kind=5 then none else G.xY t.args []:=by cases t;rw[G.En];rfl
def G.zsU(t:G)(out:Z Int):t.KU out=G.Ig t.args (if t.kind=2/\t.id ∉ out then out++[t.id]else out):=by cases t;rw[G.KU];rfl
def G.zaN(q:Int)(t:G):t.rU q=(decide (t.kind=q)||G.wQ q t.args):=by cases t;rw[G.rU];rfl
def G.JZ(b:Bool)(l:Z G):G.Bb b l=l.all λt=>t.closed b:=by
 induction l with
 |nil=>rfl
 |cons a l ih=>rw[G.Bb,ih];rfl
theorem G.Kz(q:Int)(l:Z G):G.wQ q l=l.any λt=>t.rU q:=by
 induction l with
 |nil=>rfl
 |cons a l ih=>rw[G.wQ,ih];rfl
theorem G.I6 {k h:Int}  {l:Z G} (hv:(G.mk k n i h l).valid=true):(k=1\/k=2\/k=3\/k=4\/k=5)/\(k≠4->l=[])/\G.rq l=true:=by
 unfold G.valid at hv;by_cases HR:k=1\/k=2;rw[if_pos HR]at hv;simp at hv;obtain⟨_,rfl⟩:=hv;exact⟨by omega,λ_=>rfl,rfl⟩;rw [if_neg HR]at hv;by_cases h3:k=3;rw[if_pos h3]at hv;simp at hv;obtain⟨_,rfl⟩:=hv;exact⟨by omega,λ_=>rfl,rfl⟩;rw[if_neg h3]at hv;by_cases h5:k=5;rw[if_pos h5]at hv;simp at hv;obtain⟨⟨_,rfl⟩,_⟩:=hv;exact⟨by omega,λ_=>rfl,rfl⟩;grind
mutual
theorem G.Y6:∀ t:G,t.valid=true->(t.rU 5=true->t.En=none)/\(t.rU 5=false->∃ b,t.En=some b/\∀ out,t.KU out=pR out b)
 | .mk k n i h l=>λhv=>by
   let⟨hk,h4,hl⟩:=G.I6 hv;let⟨i1,i2⟩:=G.Wz l hl;by_cases k4:k=4;subst k4;refine⟨λhh=>?_,λhh=>?_⟩;rw[G.En,if_neg (by decide),if_neg (by decide)];refine i1 ?_ [];rw[G.zaN]at hh;simpa using hh;have zBY:G.wQ 5 l=false:=(by rw[G.zaN]at hh;simpa using hh);let⟨b,M,O⟩:=i2 zBY;refine⟨pR [] b,?_,λout=>?_⟩;rw[G.En,if_neg (by decide),if_neg (by decide),M];rw[G.KU,if_neg (by simp),O,Mf];rfl;obtain rfl:=h4 k4;by_cases k5:k=5;subst k5;exact⟨λ_=>by rw[G.En];rfl,λhh=>by rw[G.rU]at hh;simp at hh⟩;refine⟨λhh=>by rw[G.rU,G.wQ]at hh;simp[k5]at hh,λ_=>?_⟩;by_cases k2:k=2;subst k2;refine⟨[i],by rw[G.En];rfl,λout=>?_⟩;rw[G.KU,G.Ig,pR,pR];by_cases hi:i∈out<;>simp[hi]
   refine⟨[],by rw[G.En,if_neg k2,if_neg k5,G.xY],λout=>?_⟩;rw[G.KU,G.Ig,pR,if_neg (λh=>k2 h.1)]
theorem G.Wz:∀ l:Z G,G.rq l=true->(G.wQ 5 l=true->∀ out,G.xY l out=none)/\(G.wQ 5 l=false->∃ b,(∀ out,G.xY l out=some (pR out b))/\∀ out,G.Ig l out=pR out b)
 | []=>λ_=>⟨λh=>(by rw[G.wQ]at h;cases h),λ_=>⟨[],λout=>rfl,λout=>rfl⟩⟩
 | t :: l=>λhv=>by
   rw[G.rq,aW]at hv;let⟨t1,t2⟩:=G.Y6 t hv.1;let⟨l1,l2⟩:=G.Wz l hv.2;refine⟨λhh out=>?_,λhh=>?_⟩;rw[G.xY]
   cases h5:t.rU 5 with
   |true=>rw[t1 h5]
   | false =>let⟨b,hb,_⟩:=t2 h5;rw[hb];exact l1 (by rw[G.wQ,h5]at hh;simpa using hh) _
   rw[G.wQ,nk]at hh;let⟨b,hb,ri⟩:=t2 hh.1;let⟨c,hc,C0⟩:=l2 hh.2;refine⟨pR b c,λout=>?_,λout=>?_⟩;rw[G.xY,hb];show G.xY l (pR out b)=_;rw[hc,Mf];rw[G.Ig,ri,C0,Mf]
end
mutual
theorem G.Hl(b:Bool):∀ t:G,t.valid=true->t.closed b=(!t.rU 1&&!t.rU 5&&(b||!t.rU 2))
 | .mk k n i h l=>λhv=>by
   let⟨hk,_,hl⟩:=G.I6 hv;rw[G.closed,G.rU,G.rU,G.rU,G.Sg b l hl];rcases hk with rfl|rfl|rfl|rfl|rfl<;>cases b<;>simp
theorem G.Sg(b:Bool):∀ l:Z G,G.rq l=true->G.Bb b l=(!G.wQ 1 l&&!G.wQ 5 l&&(b||!G.wQ 2 l))
 | []=>λ_=>by cases b<;>rfl
 | t::l=>λhv=>by
   rw[G.rq,aW]at hv;rw[G.Bb,G.wQ,G.wQ,G.wQ,G.Hl b t hv.1,G.Sg b l hv.2];cases t.rU 1<;>cases t.rU 5<;>cases t.rU 2<;>cases G.wQ 1 l<;>cases G.wQ 5 l<;>cases G.wQ 2 l<;>cases b<;>rfl
end
def Ow:Z Int->Int->Bool
 | [],_=>true
 |x::l,i=>decide (x=i)&&Ow l (i+1)
def kW(c:Scheme):Bool:=c.type.valid&&!c.type.rU 5&&Ow (c.type.KU []) 0&&decide (((c.type.KU []).length:Int)=c.count)
def ZN(c:Scheme):Bool:=match c.type.En with
 |none=>false
 |some b=>c.type.valid&&decide ((b.length:Int)=c.count)&&Ow b 0
theorem Wx:∀ (l:Z G) (o r:Z Int),o.Nodup->G.xY l o=some r->r.Nodup:=by
 intro l
 induction l with
 |nil=>intro o r h hr;rw[G.xY]at hr;cases hr;exact h
 | cons t l ih =>
   grind [G.xY,zeH]
theorem G.zgG{t:G}(h:t.En=some b):b.Nodup:=by
 grind [G.zuY,Wx,List.nodup_nil]
theorem zcj(c:Scheme):ZN c=kW c:=by
 grind [ZN,kW,G.Y6,znf,G.zgG,Bool.and_comm]
def EM(l:Z Entry)(g:G):Bool:=g.valid&&g.closed false&&decide (g.size<=200)&&l.all λe=>kW e.scheme&&e.scheme.type.closed true&&decide (e.scheme.type.size<=200)
end Go.J
set_option maxHeartbeats 1000000
namespace Go.J
open bo (enc)
def Lq(z:Y (Nat×Nat)):Nat:=match z with
 |none=>1
 |some _=>3
def Sk(n:MN)(D:Z Decl)(s:MS)(l:Z G):Z V:=match s.z with
 |none=>.sl (D.map aT) false::.a8::.a8::oV 1 (l.map aA)::jT 4 n.n
 |some (a,b)=>.sl (D.map aT) false::.own 1 a 0 s.sl.length none::.own 2 b 0 s.tr.length none::oV 3 (l.map aA)::jT 4 n.n
def uI(n:MN)(D:Z Decl)(s:MS)(l:Z G):Z (Nat×Obj):=match s.z with
 |none=>(0,.arr (n.n+4) 0 [Sk n D s l] true false false)::oH 1 5 (l.map aA)
 |some (a,b)=>(0,.arr (n.n+4) 0 [Sk n D s l] true false false)::(1,mS s.sl ⟨a,b,0,aZ _⟩)::(2,mT s.tr ⟨a,b,0,aZ _⟩)::oH 3 5 (l.map aA)
def K6(z:Y (Nat×Nat))(l:Z G):Nat:=match z,l with
 |none,[]=>1
 |none,_::_=>2
 |some _,[]=>3
 |some _,_::_=>4
def DG(z:Y (Nat×Nat))(l:Z G)(c d e:Nat):Z Nat:=match z,l with
 |none,[]=>[]
 |none,_::_=>[e]
 |some _,[]=>[c,d]
 |some _,_::_=>[c,d,e]
section
variable {n:MN}{m a b c d e:Nat}{hm:m<=1000}{D:Z Decl}{sl:Z Slot}{tr:Z Change}{t:G}{l:Z G}{s s':MS}{p:Nat×Nat}
@[simp] def zCt:uI ⟨m,hm⟩ D ⟨none,sl,tr⟩ l=(0,.arr (m+4) 0 [.sl (D.map aT) false::.a8::.a8::oV 1 (l.map aA)::jT 4 m] true false false)::oH 1 5 (l.map aA):=(rfl)
@[simp] def zCs:uI ⟨m,hm⟩ D ⟨some (a,b),sl,tr⟩ l=(0,.arr (m+4) 0 [.sl (D.map aT) false::.own 1 a 0 sl.length none::.own 2 b 0 tr.length none::oV 3 (l.map aA)::jT 4 m] true false false)::(1,.arr 8 a (sl.map dK) false false true)::(2,.arr 10 b (tr.map bW) false false true)::oH 3 5 (l.map aA):=(rfl)
@[simp] def zMX:K6 none []=1:=(rfl)
@[simp] def zMW:K6 none (t::l)=2:=(rfl)
@[simp] def zMV:K6 (some p) []=3:=(rfl)
@[simp] def zMU:K6 (some p) (t::l)=4:=(rfl)
@[simp] def zM0:DG none [] c d e=[]:=(rfl)
@[simp] def zMZ:DG (some p) [] c d e=[c,d]:=(rfl)
@[simp] def zMY:DG (some p) (t::l) c d e=[c,d,e]:=(rfl)
def zgf(d:Decl):IU (aT d)=true:=by
 simp[wy,b5,CG,aF,iK,aT]
def RY(D:Z Decl):wy (D.map aT)=true:=CG λe he=>by
 obtain⟨x,_,rfl⟩:=aF.1 he;exact zgf x
def zs8{i:Nat}{es:Z (Z V)}:(oV i es).mY=true/\(oV i es).ns=true:=by
 cases es<;>exact⟨rfl,rfl⟩
def ziK:(Sk n D s l).length=n.n+4:=by
 let⟨z,sl,tr⟩:=s;cases z<;>simp[Sk]
def zqb:wK 0 (Sk n D s l)=true:=by
 let⟨z,sl,tr⟩:=s;cases z<;>simp[Sk,wK,NC,RY,zs8]
theorem zqa{l':Z G}(k:Nat)(h:(Sk n D s' l')[k]?=some (.sym k)):(Sk n D s l)[k]?=some (.sym k):=by
 have key:∀ (s:MS) (l:Z G),(∃ j,k=j+4)->(Sk n D s l)[k]?=(jT 4 n.n)[k-4]?:=by grind [Sk]
 have hk:∃ j,k=j+4:=by refine aY λjs=>?_;have:k=0\/k=1\/k=2\/k=3:=aY λh4=>js ⟨k-4,by omega⟩;let⟨z,sl,tr⟩:=s';rcases this with rfl|rfl|rfl|rfl<;>cases z<;>cases l'<;>cases h
 grind
def J3:(uI n D s l).map Prod.fst=List.range (K6 s.z l):=by
 let⟨z,sl,tr⟩:=s;cases z<;>cases l<;>rfl
def zzP{A:Nat->Bool}(h:∀ i,i<K6 s.z l->A i=true):(Obj.arr (n.n+4) 0 [Sk n D s l] true false false).in A=true:=by
 show (([Sk n D s l]:Z (Z V)).all λe=>e.all λv=>if false=true then v.bN else v.Ai A)=true;let⟨z,sl,tr⟩:=s;cases z<;>cases l<;>simp[Sk]<;>first|done|(exact h _ (by simp))|(refine⟨?_,?_⟩<;>exact h _ (by simp))|(refine⟨?_,?_,?_⟩<;>exact h _ (by simp))
def ziJ:∀ p∈uI n D s l,p.2.in (cx (uI n D s l))=true/\p.2.fz=false:=by
 have hd:∀ i,i<K6 s.z l->cx (uI n D s l) i=true:=by
  intro i hi;have:i∈(uI n D s l).map Prod.fst:=by rw[J3];exact dh.2 hi
  obtain⟨q,hq,rfl⟩:=aF.1 this;exact dN.2 ⟨q,hq,beq_true.2 rfl⟩
 have hr:∀ (t:G) (l:Z G) {A:Nat->Bool},(Obj.arr 5 l.length (aA t::l.map aA) false false true).in A=true:=λt l A=>Bf (t::l);intro p hp;have h0:=zzP (n:=n) (D:=D) (s:=s) (l:=l) hd;let⟨z,sl,tr⟩:=s
 cases z with
 | none =>
   cases l with
   | nil =>simp only[uI,iF,Mv,ay,aU,or_false]at hp;subst hp;exact⟨h0,rfl⟩
   | cons t l =>simp only[uI,aX,xu,ay,aU,or_false]at hp;rcases hp with rfl|rfl;exact⟨h0,rfl⟩;rw[aN];exact⟨hr t l,rfl⟩
 | some q =>
   cases q
   cases l with
   | nil =>simp only[uI,iF,Mv,ay,aU,or_false]at hp;rcases hp with rfl|rfl|rfl;exact⟨h0,rfl⟩;exact⟨RB,rfl⟩;exact⟨RA,rfl⟩
   | cons t l =>
     simp only[uI,aX,xu,ay,aU,or_false]at hp;rcases hp with rfl|rfl|rfl|rfl;exact⟨h0,rfl⟩;exact⟨RB,rfl⟩;exact⟨RA,rfl⟩;rw[aN];exact⟨hr t l,rfl⟩
theorem ziI:∀ p∈uI n D s l,p.1≠0->p.2.ns=true:=by
 have hr:∀ (t:G) (l:Z G) (g:Nat),(Obj.arr 5 g (aA t::l.map aA) false false true).ns=true:=λt l g=>F5 (t::l);intro p hp cg;let⟨z,sl,tr⟩:=s
 cases z with
 | none =>
   cases l with
   | nil =>grind [uI,Mv]
   | cons t l =>grind [uI,xu]
 | some q =>
   cases q
   cases l with
   | nil =>grind [uI,Mv,Vn,Vm]
   | cons t l =>
     grind [uI,xu,Vn,Vm]
def TW:(0,Obj.arr (n.n+4) 0 [Sk n D s l] true false false)∈uI n D s l:=by
 let⟨z,sl,tr⟩:=s;cases z<;>exact aB ..
end
def DB(args:Z V)(n:MN)(D:Z Decl)(s s':MS)(l l':Z G)(ds:Z V)(r:V)(b c d e:Nat):oF where
 k:=K6 s.z l
 k':=K6 s'.z l'
 π:=λi=>(b::DG s.z l c d e).getD i 0
 OL:=uI n D s l
 cJ:=uI n D s' l'
 eb:=.ptr 0 0 0::args
 v0:=r
 s:=0
 cs:=Sk n D s l
 tz:=Sk n D s' l'
 ds:=ds
open Classical in
def Ss(o:Obj):Y (V×V×V×V×{l:Z V // l.length<=1000}):=match o with
 |.arr sz 0 [d::x::y::w::post] true false false=>gd (et (Nat.beq sz (dB post+4)) (Ka (d::x::y::w::post))) (if h:post.length<=1000 then some (d,x,y,w,⟨post,h⟩)else none)
 |_=>none
theorem zdL{o:Obj}{q:V×V×V×V×{l:Z V // l.length<=1000}}(h:Ss o=some q):o=.arr (q.2.2.2.2.1.length+4) 0 [q.1::q.2.1::q.2.2.1::q.2.2.2.1::q.2.2.2.2.1] true false false/\∀ c∈q.1::q.2.1::q.2.2.1::q.2.2.2.1::q.2.2.2.2.1,c.mY=true:=by
 unfold Ss at h;grind [bI,dz,beq_true,dH,O5]
@[simp] theorem zMT {d x y w:V} {post:Z V} {n:Nat} (h:post.length<=1000):Ss (.arr n 0 [d::x::y::w::post] true false false)=gd (et (Nat.beq n (dB post+4)) (Ka (d::x::y::w::post))) (some (d,x,y,w,⟨post,h⟩)):=by
  grind [Ss]
def OI(z:Y (Nat×Nat))(l:Z G):Bool:=match z,l with
 |none,_::_=>false
 |_,_=>true
@[simp] def zzw:OI none []=true:=(rfl)
@[simp] def zCa {p:Nat×Nat} {l:Z G}:OI (some p) l=true:=by cases l<;>rfl
def Fq(z z':Y (Nat×Nat))(l l':Z G):Bool:=et (Nat.ble (Yg z) (Yg z')) (bi (Nat.beq (dB l') 0) (Nat.beq (dB l) 0) true)
def Xa (F:Z Decl->MS->Z G->Z V->Y (V×MS×Z G)) (vs:Z V) (C:HS):Y oF:=match vs with
 |.ptr b 0 0::args=>ob (C.H.get b) λL2=>ob (Ss L2) λq=>ob (bo.dec q.1:Y (Z Decl)) λD=>ob (Is C q.2.1 q.2.2.1) λs=>ob (rowOf 5 C q.2.2.2.1) λes=>ob (eZ es:Y (Z G)) λl=>ob (F D s.2.2 l args) λr =>
  gd (et (Nat.ble (dB q.2.2.2.2.1) 900) (et (OI s.2.2.z l) (et (cj (b::DG s.2.2.z l s.1 s.2.1 (rT q.2.2.2.1))) (et ((b::DG s.2.2.z l s.1 s.2.1 (rT q.2.2.2.1)).all λx=>Nat.blt x C.n) (et (bX args) (et (IU args) (et (r.1.sS λ_=>false) (et r.1.ns (et (Fq s.2.2.z r.2.1.z l r.2.2) (et (gW C C.n) (et (gW C (C.n+1)) (gW C (C.n+2)))))))))))))
   (some (DB args ⟨q.2.2.2.2.1.length,q.2.2.2.2.2⟩ D s.2.2 r.2.1 l r.2.2 (q.1::q.2.1::q.2.2.1::q.2.2.2.1::q.2.2.2.2.1) r.1 b s.1 s.2.1 (rT q.2.2.2.1)))
 |_=>none
@[simp] def zOQ {F:Z Decl→MS→Z G→Z V→Y (V×MS×Z G)} {b:Nat} {args:Z V} {C:HS}:Xa F (.ptr b 0 0::args) C=ob (C.H.get b) fun L2=>ob (Ss L2) fun q=>ob (bo.dec q.1:Y (Z Decl)) fun D=>ob (Is C q.2.1 q.2.2.1) fun s=>ob (rowOf 5 C q.2.2.2.1) fun es=>ob (eZ es:Y (Z G)) fun l=>ob (F D s.2.2 l args) fun r =>
      gd (et (Nat.ble (dB q.2.2.2.2.1) 900) (et (OI s.2.2.z l) (et (cj (b::DG s.2.2.z l s.1 s.2.1 (rT q.2.2.2.1))) (et ((b::DG s.2.2.z l s.1 s.2.1 (rT q.2.2.2.1)).all λx=>Nat.blt x C.n) (et (bX args) (et (IU args) (et (r.1.sS λ_=>false) (et r.1.ns (et (Fq s.2.2.z r.2.1.z l r.2.2) (et (gW C C.n) (et (gW C (C.n+1)) (gW C (C.n+2)))))))))))))
       (some (DB args ⟨q.2.2.2.2.1.length,q.2.2.2.2.2⟩ D s.2.2 r.2.1 l r.2.2 (q.1::q.2.1::q.2.2.1::q.2.2.2.1::q.2.2.2.2.1) r.1 b s.1 s.2.1 (rT q.2.2.2.1))):=(rfl)
def EN{n:MN}{s0:Nat}{D:Z Decl}{s:MS}{l:Z G}{π:Nat->Nat}{x y z w:V}{post:Z V}(hn:post.length=n.n):mV s0 (x::y::z::w::post) π (s0,.arr (n.n+4) 0 [Sk n D s l] true false false)=.arr (n.n+4) 0 [.sl (D.map aT) false::(match s.z with|none=>.a8|some (a,_)=>.own (π 1) a 0 s.sl.length none)::(match s.z with|none=>.a8|some (_,b)=>.own (π 2) b 0 s.tr.length none)::oV (π (Lq s.z)) (l.map aA)::post] true false false:=by
 let⟨zz,sl,tr⟩:=s;cases zz<;>cases l<;>(show (if s0=s0 then _ else _)=_;rw[if_pos rfl];simp only[Sk,Obj.zkI,mix,I8 hn];rfl)
def KI {F:Z Decl->MS->Z G->Z V->Y (V×MS×Z G)} {vs:Z V} {C:HS} {D:oF} (h:Xa F vs C=some D) :
 ∃ args n Ds s s' l l' r ds b c d e,F Ds s l args=some (r,s',l')/\(s.z=none->s.sl=[]/\s.tr=[]/\l=[])/\Fq s.z s'.z l l'=true/\n.n<=900/\D=DB args n Ds s s' l l' ds r b c d e/\bX args=true/\(r.sS λ_=>false)=true/\D.Good/\D.Fits vs C:=by
 unfold Xa at h;split at h
 . rename_i b args;simp only[aC,bI,dz,aK,dH]at h;let⟨L2,ho,q,hq,Ds,hDs,s,cp,es,fY,l,hl,⟨r,s',l'⟩,hr,⟨HE,h0,M,O,h3,h4,h5,h6,h7,h8,h9,h10⟩,h⟩:=h;cases h;let⟨e3,e7⟩:=zdL hq;have e8:=ZI cp;have e9:=C9 fY;have BY:=bo.bB _ _ hDs;have e11:=iZ hl;let⟨c,d,s⟩:=s;let⟨x,y,z,w,post,du⟩:=q;simp only at e3 e7 e8 e9 BY e11 h0 M O hr h7 h5 h6 ⊢;subst e3 BY e11;have zQk:K6 s.z l<=K6 s'.z l'/\K6 s'.z l'<=K6 s.z l+3:=by let⟨zz,_,_⟩:=s;let⟨zO0,_,_⟩:=s';cases zz<;>cases zO0<;>cases l<;>cases l'<;>first|(refine⟨?_,?_⟩<;>simp;done)|(simp[OI]at h0;done)|(simp[Fq]at h7;done)
   have hg:(DB args ⟨post.length,du⟩ Ds s s' l l' (enc Ds::y::z::w::post) r b c d (rT w)).Good:=by refine⟨J3,J3,zQk.1,λp hp=>(ziJ p hp).1,ziJ,V.Bq (λ_ h=>by cases h) h5,?_,TW,TW,ziK,ziK,zqb,zqb,zqa,ziI,ziI,h6,?_⟩;intro v hv;rcases ay.1 hv with rfl|hv;exact dN.2 ⟨_,TW,rfl⟩;exact V.dU (jo h3 v hv);intro v hv;rcases ay.1 hv with rfl|hv;rfl;exact xw h4 v hv
   have hz0:s.z=none->s.sl=[]/\s.tr=[]/\l=[]:=by
    intro hz;rcases e8 with⟨_,_,e⟩|⟨_,_,e,_⟩;rw[e];refine⟨rfl,rfl,?_⟩;rw[hz]at h0
    cases l with
    |nil=>rfl
    |cons _ _=>cases h0
    rw[hz]at e;cases e
   refine⟨args,⟨post.length,du⟩,Ds,s,s',l,l',r,_,b,c,d,rT w,hr,hz0,h7,gM.1 HE,rfl,h3,h5,hg,?_⟩;have kA:K6 s.z l=(b::DG s.z l c d (rT w)).length:=by let⟨zz,_,_⟩:=s;cases zz<;>cases l<;>rfl
   refine⟨?_,λi j hi hj e=>?_,?_,λi hi=>?_,λi hi=>?_,?_,e7⟩;show (V.ptr 0 0 0::args).map (V.cw _)=_;rw[aX,NP h3];rfl;replace hi:i<K6 s.z l:=hi;replace hj:j<K6 s.z l:=hj;rw[kA]at hi hj;exact Dy M hi hj e;intro p hp;have tM:p∈uI ⟨post.length,du⟩ Ds s l:=hp;by_cases qe:p.1=0;have e1:=wz (by rw[J3];exact gQ) tM;have e2:=wz (p:=(0,Obj.arr (post.length+4) 0 [Sk ⟨post.length,du⟩ Ds s l] true false false)) (by rw[J3];exact gQ) (TW (n:=⟨post.length,du⟩) (D:=Ds) (s:=s) (l:=l));rw[qe]at e1;rw[e1]at e2;cases p;simp only at qe e2;subst qe;obtain rfl:=bT e2;show C.H.get b=some (mV 0 (enc Ds::y::z::w::post) (λi=>(b::DG s.z l c d (rT w)).getD i 0) (0,_));rw[EN (n:=⟨post.length,du⟩) rfl,ho]
   have hw:w=oV ((b::DG s.z l c d (rT w)).getD (Lq s.z) 0) (l.map aA):=by
    rcases e9 with⟨rfl,e9⟩|⟨id,rfl,e9,_,_,_⟩;have:l=[]:=by cases l with|nil=>rfl|cons _ _=>cases e9
    subst this;rfl;let⟨zz,sl,tr⟩:=s
    cases l with
    |nil=>exact absurd rfl e9
    |cons t l=>cases zz<;>rfl
   rcases e8 with⟨rfl,rfl,e8⟩|⟨ga,gb,e8,rfl,rfl,_,_⟩;subst e8;simp only at hw ⊢;rw[<- hw];rfl;let⟨zz,sl,tr⟩:=s;simp only at e8;subst e8;simp only at hw ⊢;rw[<- hw];cases l<;>rfl
   show C.H.get ((b::DG s.z l c d (rT w)).getD p.1 0)=some (if p.1=0 then _ else p.2.cw _);rw[if_neg qe];rcases e8 with⟨rfl,rfl,e8⟩|⟨ga,gb,e8,rfl,rfl,g4,g5⟩;subst e8;rcases e9 with⟨rfl,e9⟩|⟨id,rfl,e9,g6,_,g7⟩;have:l=[]:=by cases l with|nil=>rfl|cons _ _=>cases e9
   subst this;simp only[uI,iF,Mv,ay,aU,or_false]at tM;subst tM;exact absurd rfl qe
   cases l with
   |nil=>exact absurd rfl e9
   |cons t l=>cases h0
   let⟨zz,sl,tr⟩:=s;simp only at e8 g4 g5;subst e8;rcases e9 with⟨rfl,e9⟩|⟨id,rfl,e9,g6,_,g7⟩;have:l=[]:=by cases l with|nil=>rfl|cons _ _=>cases e9
   subst this;simp only[uI,iF,Mv,ay,aU,or_false]at tM;rcases tM with rfl|rfl|rfl;exact absurd rfl qe;show C.H.get c=_;rw[g4];exact congrArg some (sG (sl:=sl) (g:=⟨ga,gb,0,aZ _⟩)).symm;show C.H.get d=_;rw[g5];exact congrArg some (sF (tr:=tr) (g:=⟨ga,gb,0,aZ _⟩)).symm
   cases l with
   |nil=>exact absurd rfl e9
   | cons t l =>simp only[uI,aX,xu,ay,aU,or_false]at tM;rcases tM with rfl|rfl|rfl|rfl;exact absurd rfl qe;show C.H.get c=_;rw[g4];exact congrArg some (sG (sl:=sl) (g:=⟨ga,gb,0,aZ _⟩)).symm;show C.H.get d=_;rw[g5];exact congrArg some (sF (tr:=tr) (g:=⟨ga,gb,0,aZ _⟩)).symm;show C.H.get id=_;rw[g6];exact congrArg some (Dx (sz:=5) (es:=(t::l).map aA) (Bf (t::l))).symm
   have cm:i<K6 s'.z l'-K6 s.z l:=hi;have:i=0\/i=1\/i=2:=(by omega);rcases this with rfl|rfl|rfl;exact h8;exact h9;exact h10;replace hi:i<K6 s.z l:=hi;rw[kA]at hi;show (b::DG s.z l c d (rT w)).getD i 0<C.n;rw[fS hi];exact gz.1 (au.1 O _ (ax hi));show post.length+4<=1000000;omega
 cases h
end Go.J
