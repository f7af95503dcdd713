import Derived.Test.YtfloillkpbhhhaaGreatJK11
import Derived.Test.YtfloillkpbhhhaaGreatJK9
import Derived.Test.YtfloillkpbhhhaaGreatJK10
set_option linter.all false
noncomputable section
set_option maxRecDepth 100000
set_option maxHeartbeats 4000000
namespace Go.J
open bo (enc)
section
variable {args:Z V}{n b c d e ga gb Bi Bh:Nat}{kc:n<=1000}{Ds:Z Decl}{sl cS:Z Slot}{tr xI:Z Change}{t t':G}{l l':Z G}{x y z w r:V}{post:Z V}{C:HS}{N:MN}{s s':MS}{L L':Z G}{ds:Z V}
@[simp] def zE0 {q:Bool}:(B5 args N Ds s s' L L' ds (.bool q) b c d e).vl C=.bool q:=(rfl)
@[simp] def zEZ {q:Bool} {es:Z (Z V)} {g:Bool}:(B5 args N Ds s s' L L' ds (.tuple [.sl es g,.bool q]) b c d e).vl C=.tuple [.sl es g,.bool q]:=(rfl)
@[simp] def zx5 (hn:post.length=n):(B5 args ⟨n,kc⟩ Ds ⟨none,sl,tr⟩ ⟨none,cS,xI⟩ [] [] (x::y::z::w::post) r b c d e).hp C={ H:=C.H.set b (.arr (n+4) 0 [.sl (Ds.map aP) false::.aE::.aE::.aE::post] true false false),n:=C.n,log:=b::C.log }:=by
  show ({ H:=C.H.set b (mI 0 (x::y::z::w::post) (news C.n 1 (λi=>([b]:Z Nat).getD i 0)) (0,.arr (n+4) 0 [QU ⟨n,kc⟩ Ds ⟨none,cS,xI⟩ []] true false false)),n:=C.n+0,log:=_ }:HS)=_;rw[Em (n:=⟨n,kc⟩) hn];simp[oO,oV,H4,news]
  try rfl
@[simp] def zx4 (hn:post.length=n):(B5 args ⟨n,kc⟩ Ds ⟨none,sl,tr⟩ ⟨none,cS,xI⟩ [] (t'::l') (x::y::z::w::post) r b c d e).hp C={ H:=(C.H.set C.n (.arr 5 l'.length (au t'::l'.map au) false false true)).set b (.arr (n+4) 0 [.sl (Ds.map aP) false::.aE::.aE::.own C.n l'.length 0 (l'.length+1) none::post] true false false),n:=C.n+1,log:=b::C.n::C.log }:=by
  show ({ H:=(C.H.set (C.n+0) ((oO 5 ((t'::l').map au)).cq (news C.n 1 (λi=>([b]:Z Nat).getD i 0)))).set b (mI 0 (x::y::z::w::post) (news C.n 1 (λi=>([b]:Z Nat).getD i 0)) (0,.arr (n+4) 0 [QU ⟨n,kc⟩ Ds ⟨none,cS,xI⟩ (t'::l')] true false false)),n:=C.n+1,log:=_ }:HS)=_;rw[CY (sz:=5) (es:=(t'::l').map au) (Ay (t'::l')),Em (n:=⟨n,kc⟩) hn];simp[oO,oV,H4,news]
  try rfl
@[simp] def zx3 (hn:post.length=n):(B5 args ⟨n,kc⟩ Ds ⟨none,sl,tr⟩ ⟨some (Bi,Bh),cS,xI⟩ [] [] (x::y::z::w::post) r b c d e).hp C={ H:=((C.H.set (C.n+1) (.arr 10 Bh (xI.map bW) false false true)).set C.n (.arr 8 Bi (cS.map dG) false false true)).set b (.arr (n+4) 0 [.sl (Ds.map aP) false::.own C.n Bi 0 cS.length none::.own (C.n+1) Bh 0 xI.length none::.aE::post] true false false),n:=C.n+2,log:=b::C.n::(C.n+1)::C.log }:=by
  show ({ H:=((C.H.set (C.n+1) ((mT xI ⟨Bi,Bh,0,aW _⟩).cq (news C.n 1 (λi=>([b]:Z Nat).getD i 0)))).set (C.n+0) ((mS cS ⟨Bi,Bh,0,aW _⟩).cq (news C.n 1 (λi=>([b]:Z Nat).getD i 0)))).set b (mI 0 (x::y::z::w::post) (news C.n 1 (λi=>([b]:Z Nat).getD i 0)) (0,.arr (n+4) 0 [QU ⟨n,kc⟩ Ds ⟨some (Bi,Bh),cS,xI⟩ []] true false false)),n:=C.n+2,log:=_ }:HS)=_;rw[rZ,rY,Em (n:=⟨n,kc⟩) hn];simp[oO,oV,H4,news]
  try rfl
@[simp] def zx2 (hn:post.length=n):(B5 args ⟨n,kc⟩ Ds ⟨none,sl,tr⟩ ⟨some (Bi,Bh),cS,xI⟩ [] (t'::l') (x::y::z::w::post) r b c d e).hp C={ H:=(((C.H.set (C.n+2) (.arr 5 l'.length (au t'::l'.map au) false false true)).set (C.n+1) (.arr 10 Bh (xI.map bW) false false true)).set C.n (.arr 8 Bi (cS.map dG) false false true)).set b (.arr (n+4) 0 [.sl (Ds.map aP) false::.own C.n Bi 0 cS.length none::.own (C.n+1) Bh 0 xI.length none::.own (C.n+2) l'.length 0 (l'.length+1) none::post] true false false),n:=C.n+3,log:=b::C.n::(C.n+1)::(C.n+2)::C.log }:=by
  show ({ H:=(((C.H.set (C.n+2) ((oO 5 ((t'::l').map au)).cq (news C.n 1 (λi=>([b]:Z Nat).getD i 0)))).set (C.n+1) ((mT xI ⟨Bi,Bh,0,aW _⟩).cq (news C.n 1 (λi=>([b]:Z Nat).getD i 0)))).set (C.n+0) ((mS cS ⟨Bi,Bh,0,aW _⟩).cq (news C.n 1 (λi=>([b]:Z Nat).getD i 0)))).set b (mI 0 (x::y::z::w::post) (news C.n 1 (λi=>([b]:Z Nat).getD i 0)) (0,.arr (n+4) 0 [QU ⟨n,kc⟩ Ds ⟨some (Bi,Bh),cS,xI⟩ (t'::l')] true false false)),n:=C.n+3,log:=_ }:HS)=_;rw[rZ,rY,CY (sz:=5) (es:=(t'::l').map au) (Ay (t'::l')),Em (n:=⟨n,kc⟩) hn];simp[oO,oV,H4,news]
  try rfl
@[simp] def zx1 (hn:post.length=n):(B5 args ⟨n,kc⟩ Ds ⟨some (ga,gb),sl,tr⟩ ⟨some (Bi,Bh),cS,xI⟩ [] [] (x::y::z::w::post) r b c d e).hp C={ H:=((C.H.set d (.arr 10 Bh (xI.map bW) false false true)).set c (.arr 8 Bi (cS.map dG) false false true)).set b (.arr (n+4) 0 [.sl (Ds.map aP) false::.own c Bi 0 cS.length none::.own d Bh 0 xI.length none::.aE::post] true false false),n:=C.n,log:=b::c::d::C.log }:=by
  show ({ H:=((C.H.set d ((mT xI ⟨Bi,Bh,0,aW _⟩).cq (news C.n 3 (λi=>([b,c,d]:Z Nat).getD i 0)))).set c ((mS cS ⟨Bi,Bh,0,aW _⟩).cq (news C.n 3 (λi=>([b,c,d]:Z Nat).getD i 0)))).set b (mI 0 (x::y::z::w::post) (news C.n 3 (λi=>([b,c,d]:Z Nat).getD i 0)) (0,.arr (n+4) 0 [QU ⟨n,kc⟩ Ds ⟨some (Bi,Bh),cS,xI⟩ []] true false false)),n:=C.n+0,log:=_ }:HS)=_;rw[rZ,rY,Em (n:=⟨n,kc⟩) hn];simp[oO,oV,H4,news]
  try rfl
@[simp] def zx0 (hn:post.length=n):(B5 args ⟨n,kc⟩ Ds ⟨some (ga,gb),sl,tr⟩ ⟨some (Bi,Bh),cS,xI⟩ [] (t'::l') (x::y::z::w::post) r b c d e).hp C={ H:=(((C.H.set C.n (.arr 5 l'.length (au t'::l'.map au) false false true)).set d (.arr 10 Bh (xI.map bW) false false true)).set c (.arr 8 Bi (cS.map dG) false false true)).set b (.arr (n+4) 0 [.sl (Ds.map aP) false::.own c Bi 0 cS.length none::.own d Bh 0 xI.length none::.own C.n l'.length 0 (l'.length+1) none::post] true false false),n:=C.n+1,log:=b::c::d::C.n::C.log }:=by
  show ({ H:=(((C.H.set (C.n+0) ((oO 5 ((t'::l').map au)).cq (news C.n 3 (λi=>([b,c,d]:Z Nat).getD i 0)))).set d ((mT xI ⟨Bi,Bh,0,aW _⟩).cq (news C.n 3 (λi=>([b,c,d]:Z Nat).getD i 0)))).set c ((mS cS ⟨Bi,Bh,0,aW _⟩).cq (news C.n 3 (λi=>([b,c,d]:Z Nat).getD i 0)))).set b (mI 0 (x::y::z::w::post) (news C.n 3 (λi=>([b,c,d]:Z Nat).getD i 0)) (0,.arr (n+4) 0 [QU ⟨n,kc⟩ Ds ⟨some (Bi,Bh),cS,xI⟩ (t'::l')] true false false)),n:=C.n+1,log:=_ }:HS)=_;rw[rZ,rY,CY (sz:=5) (es:=(t'::l').map au) (Ay (t'::l')),Em (n:=⟨n,kc⟩) hn];simp[oO,oV,H4,news]
  try rfl
@[simp] def zxZ (hn:post.length=n):(B5 args ⟨n,kc⟩ Ds ⟨some (ga,gb),sl,tr⟩ ⟨some (Bi,Bh),cS,xI⟩ (t::l) (t'::l') (x::y::z::w::post) r b c d e).hp C={ H:=(((C.H.set e (.arr 5 l'.length (au t'::l'.map au) false false true)).set d (.arr 10 Bh (xI.map bW) false false true)).set c (.arr 8 Bi (cS.map dG) false false true)).set b (.arr (n+4) 0 [.sl (Ds.map aP) false::.own c Bi 0 cS.length none::.own d Bh 0 xI.length none::.own e l'.length 0 (l'.length+1) none::post] true false false),n:=C.n,log:=b::c::d::e::C.log }:=by
  show ({ H:=(((C.H.set e ((oO 5 ((t'::l').map au)).cq (news C.n 4 (λi=>([b,c,d,e]:Z Nat).getD i 0)))).set d ((mT xI ⟨Bi,Bh,0,aW _⟩).cq (news C.n 4 (λi=>([b,c,d,e]:Z Nat).getD i 0)))).set c ((mS cS ⟨Bi,Bh,0,aW _⟩).cq (news C.n 4 (λi=>([b,c,d,e]:Z Nat).getD i 0)))).set b (mI 0 (x::y::z::w::post) (news C.n 4 (λi=>([b,c,d,e]:Z Nat).getD i 0)) (0,.arr (n+4) 0 [QU ⟨n,kc⟩ Ds ⟨some (Bi,Bh),cS,xI⟩ (t'::l')] true false false)),n:=C.n+0,log:=_ }:HS)=_;rw[rZ,rY,CY (sz:=5) (es:=(t'::l').map au) (Ay (t'::l')),Em (n:=⟨n,kc⟩) hn];simp[oO,oV,H4,news]
  try rfl
end
end Go.J
set_option maxHeartbeats 1000000
namespace Go.J
open bo (enc)
def Yw(cJ:Z V->HS->Y nU):Spec:=λvs C=>W (cJ vs C) λD=>gd D.v0.pure (some (D.v0,C))
theorem S9 {I:Nat->Value} {P:Program} {f:FuncId} {fn:Func} {sc:SC} {T:PT V} {D:nU} (hρ:J.Good I) (hP:P.follows .mixedOrders=true) (hN:vK P) (hf:P.funcs[f]?=some fn) (hb:fn.body.bind aU=some sc) (he:jE fn.ntmps D.dq 0 .leaf=some T)
 (hg:D.Good) (ho:D.cI=D.OL) (hr:D.v0.pure=true) (h:∀ ρ',J.Good ρ'->∃ E,E.P=P/\bH ρ' E/\Wp ρ' E D.k fn.ntmps sc T { H:=dW D.OL,n:=D.k,log:=[] } (Leaves P fn (aH D.k D.v0 D.cI))) {vs:Z V} {C:HS} (b4:D.Fits vs C) :
 aT I P f vs C D.v0 C:=by
 have key:=Yu hρ hP hN hf hb he hg h b4;rw[show D.vl C=D.v0 from V.jw (V.dU hr)]at key
 have cC:∀ i,cr D.OL i=true->i<D.k:=by
  intro i hi;obtain⟨q,hq,Ok⟩:=di.1 hi;rw[beq_true]at Ok;exact dB.1 (by rw[<- hg.ol];exact aI.2 ⟨q,hq,Ok⟩)
 have gO:∀ id,(D.hp C).H.get id=C.H.get id:=by
  intro id;refine D9 (λp hp=>?_) id;obtain⟨p0,pL,rfl⟩:=aI.1 hp;have Bx:p0∈D.OL:=by rw[<- ho];exact pL
  have h0:p0.1<D.k:=cC _ (di.2 ⟨p0,Bx,beq_true.2 rfl⟩);show C.H.get (news C.n D.k D.π p0.1)=some (mI D.s D.ds (news C.n D.k D.π) p0);rw[show news C.n D.k D.π p0.1=D.π p0.1 from if_pos h0,b4.obj p0 Bx];refine congrArg some ?_;have hc:=Obj.OP (A:=cr D.OL) (π:=news C.n D.k D.π) (σ:=D.π) (λi hi=>if_pos (cC i hi)) (hg.Mu p0 Bx);unfold mI;split
  . rename_i e
    have e2:p0.2=Obj.arr D.ds.length 0 [D.cs] true false false:=by
     have eN:(D.OL.map Prod.fst).Nodup:=by rw[hg.ol];exact iq
     have e3:=vS eN Bx;have e4:=vS eN hg.lx
     grind
    rw[e2]at hc ⊢
    have ya:D.cs.map (V.jl (news C.n D.k D.π))=D.cs.map (V.jl D.π):=by
     simp_all
    show Obj.arr _ _ [mix D.π D.cs D.ds] _ _ _=Obj.arr _ _ [mix _ D.cs D.ds] _ _ _;rw[O3 ya]
  grind
 grind [aT.quiet,id]
def Valid.Yw{I:Nat->Value}{P:Program}{f:Nat}{cJ:Z V->HS->Y nU}(hf:wh P f)(h:∀ vs C D,cJ vs C=some D->D.v0.pure=true->aT I P f vs C D.v0 C):Valid I P f (Yw cJ) where
 fn:=hf
 ok:=by
  intro vs C v a8 hq;simp only[J.Yw,aA,bE]at hq;obtain⟨D,hD,hp,hq⟩:=hq;cases hq;exact h _ _ _ hD hp
 kept:=by
  intro vs C q hq;simp only[J.Yw,aA,bE]at hq;obtain⟨D,hD,hp,hq⟩:=hq;cases hq;exact .refl _
@[simp] def zIF {cJ:Z V->HS->Y nU} {vs:Z V} {C:HS} {Q:V×HS->Prop}:Cu (J.Yw cJ vs C) Q=Cu (cJ vs C) λD=>D.v0.pure=true/\Q (D.v0,C):=by
  show ok (J.Yw cJ vs C) Q=ok (cJ vs C) λD=>D.v0.pure=true/\Q (D.v0,C)
  simp only[J.Yw,iQ,wz,dP]
structure ZZ where
 n:MN
 D:List Decl
 ga:Nat
 gb:Nat
 sl:List Slot
 tr:List Change
 t:G
 l:List G
def Hx(c d e:Nat)(R:ZZ):Z V:=.sl (R.D.map aP) false::.own c R.ga 0 R.sl.length none::.own d R.gb 0 R.tr.length none::.own e R.l.length 0 (R.l.length+1) none::jS 4 R.n.n
def CP(R:ZZ):Z (Nat×Obj):=[(0,jm (.ptr 1 0 0)),(1,.arr (R.n.n+4) 0 [Hx 2 3 4 R] true false false),(2,mS R.sl ⟨R.ga,R.gb,0,aW _⟩),(3,mT R.tr ⟨R.ga,R.gb,0,aW _⟩),(4,.arr 5 R.l.length (au R.t::R.l.map au) false false true)]
section
variable {n ga gb m:Nat}{hn:n<=1000}{D:Z Decl}{sl:Z Slot}{tr:Z Change}{t:G}{l:Z G}{R:ZZ}
@[simp] def zIO:CP ⟨⟨n,hn⟩,D,ga,gb,sl,tr,t,l⟩=[(0,jm (.ptr 1 0 0)),(1,.arr (n+4) 0 [.sl (D.map aP) false::.own 2 ga 0 sl.length none::.own 3 gb 0 tr.length none::.own 4 l.length 0 (l.length+1) none::jS 4 n] true false false),(2,.arr 8 ga (sl.map dG) false false true),(3,.arr 10 gb (tr.map bW) false false true),(4,.arr 5 l.length (au t::l.map au) false false true)]:=(rfl)
def zgA{c d e:Nat}:(Hx c d e R).length=R.n.n+4:=by simp[Hx]
def zmD{c d e:Nat}:wm 0 (Hx c d e R)=true:=by simp[Hx,wm,MO,QF]
theorem zgz:∀ p∈CP R,p.2.in (cr (CP R))=true/\p.2.fz=false:=by
 intro p hp
 have hd:∀ i,i<5->cr (CP R) i=true:=λi hi=>by
  rcases(show i=0\/i=1\/i=2\/i=3\/i=4 by omega)with rfl|rfl|rfl|rfl|rfl<;>rfl
 simp only[CP,aB,aS,or_false]at hp;rcases hp with rfl|rfl|rfl|rfl|rfl
 . exact⟨rfl,rfl⟩
 . refine⟨?_,rfl⟩;simp[Hx,cr,CP]
 . exact⟨Qr,rfl⟩
 . exact⟨Qq,rfl⟩
 . exact⟨Ay (R.t::R.l),rfl⟩
theorem zgy:∀ p∈CP R,p.1≠1->p.2.ns=true:=by
 intro p hp cb;simp only[CP,aB,aS,or_false]at hp;rcases hp with rfl|rfl|rfl|rfl|rfl
 . rfl
 . omega
 . exact Uj
 . exact Ui
 . exact FH (R.t::R.l)
end
def IF(dq:Z V)(R:ZZ)(r:V)(ds:Z V)(a b c d e:Nat):nU where
 k:=5
 k':=5
 π:=λi=>[a,b,c,d,e].getD i 0
 OL:=CP R
 cI:=CP R
 dq:=dq
 v0:=r
 s:=1
 cs:=Hx 2 3 4 R
 s5:=Hx 2 3 4 R
 ds:=ds
def za6{dq:Z V}{R:ZZ}{r:V}{ds:Z V}{a b c d e:Nat}(Ek:ds.length=R.n.n+4)(hv:∀ v∈dq,v.tJ (cr (CP R))=true)(hn:∀ v∈dq,v.ns=true)(hr:(r.tJ λ_=>false)=true)(hrn:r.ns=true):(IF dq R r ds a b c d e).Good:=by
 refine⟨rfl,rfl,af _,λp hp=>(zgz p hp).1,zgz,V.AO (λ_ h=>by cases h) hr,hv,?_,?_,zgA.trans Ek.symm,zgA.trans Ek.symm,zmD,zmD,λ_ h=>h,zgy,zgy,hrn,hn⟩
 . show (1,Obj.arr ds.length 0 [Hx 2 3 4 R] true false false)∈CP R;rw[Ek];exact aF _ (aD ..)
 . show (1,Obj.arr ds.length 0 [Hx 2 3 4 R] true false false)∈CP R;rw[Ek];exact aF _ (aD ..)
structure zBd where
 R:ZZ
 ds:List V
 a:Nat
 b:Nat
 c:Nat
 d:Nat
 e:Nat
def zFX(a b e:Nat)(C:HS)(q:V×V×V×V×{l:Z V // l.length<=1000})(D:Z Decl)(s:Nat×Nat×MS)(l:Z G):Y zBd:=match s.2.2.z,l with
 |some (ga,gb),t::l=>gd (et (cd [a,b,s.1,s.2.1,e]) ([a,b,s.1,s.2.1,e].all λx=>Nat.blt x C.n)) (some ⟨⟨⟨q.2.2.2.2.1.length,q.2.2.2.2.2⟩,D,ga,gb,s.2.2.sl,s.2.2.tr,t,l⟩,q.1::q.2.1::q.2.2.1::q.2.2.2.1::q.2.2.2.2.1,a,b,s.1,s.2.1,e⟩)
 |_,_=>none
@[simp] def zLJ {a b e c d ga gb:Nat} {C:HS} {q:V×V×V×V×{l:Z V // l.length<=1000}} {D:Z Decl} {sl:Z Slot} {tr:Z Change} {t:G} {l:Z G}:zFX a b e C q D (c,d,⟨some (ga,gb),sl,tr⟩) (t::l)=gd (et (cd [a,b,c,d,e]) ([a,b,c,d,e].all λx=>Nat.blt x C.n)) (some ⟨⟨⟨q.2.2.2.2.1.length,q.2.2.2.2.2⟩,D,ga,gb,sl,tr,t,l⟩,q.1::q.2.1::q.2.2.1::q.2.2.2.1::q.2.2.2.2.1,a,b,c,d,e⟩):=(rfl)
def RR(a:Nat)(C:HS):Y zBd:=W (C.H.get a) λoa=>W (du oa) λva=>W (IL 0 va) λb=>W (C.H.get b) λo=>W (Nm o) λq=>W (bo.dec q.1:Y (Z Decl)) λD=>W (HA C q.2.1 q.2.2.1) λs=>W (rowOf 5 C q.2.2.2.1) λes=>W (eT es:Y (Z G)) λl=>zFX a b (rC q.2.2.2.1) C q D s l
@[simp] def zLI {a:Nat} {C:HS}:RR a C=W (C.H.get a) λoa=>W (du oa) λva=>W (IL 0 va) λb=>W (C.H.get b) λo=>W (Nm o) λq=>W (bo.dec q.1:Y (Z Decl)) λD=>W (HA C q.2.1 q.2.2.1) λs=>W (rowOf 5 C q.2.2.2.1) λes=>W (eT es:Y (Z G)) λl=>zFX a b (rC q.2.2.2.1) C q D s l:=(rfl)
structure zBd.In(X:zBd)(C:HS):Prop where
 len:X.ds.length=X.R.n.n+4
 cell:∀ d∈X.ds,d.mM=true
 nd:cd [X.a,X.b,X.c,X.d,X.e]=true
 lt:[X.a,X.b,X.c,X.d,X.e].all (λx=>Nat.blt x C.n)=true
 obj:∀ p∈CP X.R,C.H.get ([X.a,X.b,X.c,X.d,X.e].getD p.1 0)=some (mI 1 X.ds (λi=>[X.a,X.b,X.c,X.d,X.e].getD i 0) p)
theorem zgx {a:Nat} {C:HS} {X:zBd} (h:RR a C=some X):X.a=a/\X.In C:=by
 unfold RR at h;simp only[aA]at h;obtain⟨oa,HJ,va,Kx,b,hb,o,ho,q,hq,D,hD,s,cm,es,gA,l,hl,h⟩:=h;have e1:=uD Kx;have e2:=JS hb;obtain⟨e3,e7⟩:=zcE hq;have e8:=Yz cm;have e9:=Ct gA;have AM:=bo.bq _ _ hD;have Z3:=iT hl;obtain⟨c,d,z,sl,tr⟩:=s;obtain⟨x,y,w,v,post,dg⟩:=q;simp only at e3 e7 e8 e9 AM Z3 h;subst e1 e2 e3 AM Z3;unfold zFX at h;simp only at h;split at h
 . rename_i ga gb t l;simp only[bE,dx]at h;obtain⟨⟨M,O⟩,h⟩:=h;cases h;rcases e8 with⟨_,_,e⟩|⟨Bi,Bh,e8,rfl,rfl,g4,g5⟩
   . cases e
   . cases e8;rcases e9 with⟨rfl,e9⟩|⟨id,rfl,e9,g6,_,g7⟩
     . cases e9
     . refine⟨rfl,⟨rfl,e7,M,O,λp hp=>?_⟩⟩;simp only[CP,aB,aS,or_false]at hp;rcases hp with rfl|rfl|rfl|rfl|rfl
       . exact HJ
       . show C.H.get b=some (if 1=1 then _ else _);rw[if_pos rfl,ho];show some _=some (Obj.arr (post.length+4) 0 [.sl (D.map aP) false::.own c ga 0 sl.length none::.own d gb 0 tr.length none::.own id l.length 0 (l.length+1) none::mix _ (jS 4 post.length) post] true false false);simp[Il,oV]
       . show C.H.get c=_;rw[g4];exact congrArg some (rZ (sl:=sl) (g:=⟨ga,gb,0,aW _⟩)).symm
       . show C.H.get d=_;rw[g5];exact congrArg some (rY (tr:=tr) (g:=⟨ga,gb,0,aW _⟩)).symm
       . show C.H.get id=_;rw[show C.H.get id=some (oO 5 ((t::l).map au)) from g6];have e:oO 5 ((t::l).map au)=.arr 5 l.length (au t::l.map au) false false true:=by simp[oO]
         show some (oO 5 ((t::l).map au))=some (Obj.cq (λi=>[a,b,c,d,id].getD i 0) (.arr 5 l.length (au t::l.map au) false false true))
         simp_all
 . cases h
def za7{dq vs:Z V}{X:zBd}{r:V}{C:HS}(hX:X.In C)(ha:dq.map (V.cq λi=>[X.a,X.b,X.c,X.d,X.e].getD i 0)=vs):(IF dq X.R r X.ds X.a X.b X.c X.d X.e).Fits vs C:=by
 refine nU.J3 [X.a,X.b,X.c,X.d,X.e] rfl rfl hX.nd hX.lt ha hX.obj rfl ?_ hX.cell;show X.ds.length<=1000000;have:=X.R.n.h;rw[hX.len];omega
def ziz(F:ZZ->V->Y V)(vs:Z V)(C:HS):Y nU:=match vs with
 | [t,.ptr a 0 0]=>W (RR a C) λX=>W (F X.R t) λr=>gd (et (cu [t]) (et (H7 [t]) (et (r.tJ λ_=>false) r.ns))) (some (IF [t,.ptr 0 0 0] X.R r X.ds X.a X.b X.c X.d X.e))
 |_=>none
def YA(g:Nat)(F:ZZ->Y V)(vs:Z V)(C:HS):Y nU:=match vs with
 | [.own e ge 0 m none,.func g' [.ptr a 0 0]]=>W (RR a C) λX=>W (F X.R) λr=>gd (et (Nat.beq g g') (et (Nat.beq e X.e) (et (Nat.beq ge X.R.l.length) (et (Nat.beq m (X.R.l.length+1)) (et (r.tJ λ_=>false) r.ns))))) (some (IF [.own 4 X.R.l.length 0 (X.R.l.length+1) none,.func g [.ptr 0 0 0]] X.R r X.ds X.a X.b X.c X.d X.e))
 |_=>none
section
variable {F:ZZ->V->Y V}{F2:ZZ->Y V}{vs:Z V}{C:HS}{D:nU}
@[simp] def zIQ {t:V} {a:Nat}:ziz F [t,.ptr a 0 0] C=W (RR a C) λX=>W (F X.R t) λr=>gd (et (cu [t]) (et (H7 [t]) (et (r.tJ λ_=>false) r.ns))) (some (IF [t,.ptr 0 0 0] X.R r X.ds X.a X.b X.c X.d X.e)):=(rfl)
@[simp] def zIP {g g' e ge m a:Nat}:YA g F2 [.own e ge 0 m none,.func g' [.ptr a 0 0]] C=W (RR a C) λX=>W (F2 X.R) λr=>gd (et (Nat.beq g g') (et (Nat.beq e X.e) (et (Nat.beq ge X.R.l.length) (et (Nat.beq m (X.R.l.length+1)) (et (r.tJ λ_=>false) r.ns))))) (some (IF [.own 4 X.R.l.length 0 (X.R.l.length+1) none,.func g [.ptr 0 0 0]] X.R r X.ds X.a X.b X.c X.d X.e)):=(rfl)
@[simp] def zIR {dq ds:Z V} {R:ZZ} {r:V} {a b c d e:Nat}:(IF dq R r ds a b c d e).v0=r:=(rfl)
theorem zmC(h:ziz F vs C=some D):∃ t R r ds a b c d e,F R t=some r/\D=IF [t,.ptr 0 0 0] R r ds a b c d e/\D.Good/\D.Fits vs C:=by
 unfold ziz at h;split at h
 . rename_i t a;simp only[aA,bE,dx]at h;obtain⟨X,hX,r,hr,⟨M,O,h3,h4⟩,h⟩:=h;cases h;obtain⟨rfl,hI⟩:=zgx hX;refine⟨t,X.R,r,_,_,_,_,_,_,hr,rfl,za6 hI.len ?_ ?_ h3 h4,za7 hI ?_⟩
   . intro v hv;rcases aB.1 hv with rfl|hv
     . exact V.dU (jM M _ (aD ..))
     . rw[ay.1 hv];rfl
   . simp_all
   . show [V.cq _ t,_]=_;rw[V.jw (V.dU (jM M _ (aD ..)))];rfl
 . cases h
def za5{g:Nat}(h:YA g F2 vs C=some D):∃ R r ds a b c d e,F2 R=some r/\D=IF [.own 4 R.l.length 0 (R.l.length+1) none,.func g [.ptr 0 0 0]] R r ds a b c d e/\D.Good/\D.Fits vs C:=by
 unfold YA at h;split at h
 . rename_i e ge m g' a;simp only[aA,bE,dx,beq_true]at h;obtain⟨X,hX,r,hr,⟨rfl,rfl,rfl,rfl,h3,h4⟩,h⟩:=h;cases h;obtain⟨rfl,hI⟩:=zgx hX;refine⟨X.R,r,_,_,_,_,_,_,hr,rfl,za6 hI.len ?_ ?_ h3 h4,za7 hI rfl⟩
   . intro v hv;rcases aB.1 hv with rfl|hv
     . rfl
     . rw[ay.1 hv];rfl
   . intro v hv;rcases aB.1 hv with rfl|hv
     . rfl
     . rw[ay.1 hv];rfl
 . cases h
end
theorem vZ.auto{k:Nat}{v0 a b:V}{OL:Z (Nat×Obj)}{C:HS}(dt:ok (kP C a) λa'=>V.tuple [gX a',b]=v0/\(v0.tJ λ_=>false)=true:=by simp[kP])
 (hH:∀ p∈OL,p.2.in (cr OL)=true/\(a.cells.any (pC (J.auto k [] OL .leaf C.H p.1)))=false/\C.H.get (J.auto k [] OL .leaf C.H p.1)=some (p.2.cq (J.auto k [] OL .leaf C.H)):=by simp[pC])
 (hi:cd (OL.map λp=>J.auto k [] OL .leaf C.H p.1)=true:=by first|rfl|(simp;done)) (hk:(List.range k).all (λi=>Nat.beq (J.auto k [] OL .leaf C.H i) i&&cr OL i)=true:=by first|rfl|(simp;done)|(simp<;>(intro x hx;first|omega|exact⟨.inl hx,by omega⟩))):vZ k v0 OL (.tuple [a,b]) C:=by
 obtain⟨a',ha,rfl,hv⟩:=dt;refine⟨a,b,(a',mr C a.cells),rfl,by simp only[ng,ha];rfl,aH.Za _ hi hk ⟨V.AO (λ_ h=>by cases h) hv,(V.jw hv).symm⟩ λp hp=>?_⟩
 grind [Jd]
@[simp] def zuA {l m:Z (Z V)}:vR (l++m)=(vR l&&vR m):=by
  induction l with
  |nil=>simp[vR]
  |cons e l ih=>rw[eU,Qo,Qo,ih,Bool.and_assoc]
def zcq(a:Entry):H7 (df a)=true:=by simp[df]
@[simp] def zwJ {l:Z Entry}:vR (l.map df)=true:=Ca λe he=>by
  obtain⟨a,_,rfl⟩:=aI.1 he;exact zcq a
@[simp] def zwI {l:Z (Z Nat)}:vR (l.map cF)=true:=Ca λe he=>by
  obtain⟨a,_,rfl⟩:=aI.1 he;rfl
mutual
theorem zco:∀ x:Xp,H7 (dL x)=true
 | .mk k p n m l a t=>by
   have M:=Pp l;have O:=Ps a;simp[dL,M,O]
theorem Pp:∀ l:Z Xp,vR (qz l)=true
 | []=>by simp[qz,vR]
 | x::l=>by
   rw[qz];show (H7 (dL x)&&vR (qz l))=true;rw[zco x,Pp l];rfl
theorem zoE:∀ x:Am,H7 (gL x)=true
 | .mk p c v b=>by
   have M:=zco b;rw[gL];show (true&&(true&&(vR (v.map cF)&&H7 (dL b))))=true;rw[M,zwI];rfl
theorem Ps:∀ l:Z Am,vR (qB l)=true
 | []=>by simp[qB,vR]
 | x::l=>by
   rw[qB];show (H7 (gL x)&&vR (qB l))=true;rw[zoE x,Ps l];rfl
end
@[simp] def zGu {l:Z Xp}:vR (l.map dL)=true:=by rw[<- Xw];exact Pp l
@[simp] def zGv {l:Z Am}:vR (l.map gL)=true:=by rw[<- Xy];exact Ps l
section
variable {p p':Nat×Nat}{t t':G}{l l':Z G}{z z':Y (Nat×Nat)}
@[simp] def zEx:EM none z' [] l'=true:=by
  unfold EM;cases z'<;>simp[WZ,dI]
@[simp] def zEw:EM (some p) (some p') [] l'=true:=by
  unfold EM;simp[WZ,dI]
@[simp] def zEv:EM (some p) (some p') (t::l) (t'::l')=true:=by
  unfold EM;simp[WZ,dI]
end
end Go.J
set_option maxRecDepth 100000
namespace Go.J
open bo (enc)
namespace ao
section
variable {n S:Nat}{s p:ao}
structure te(n S:Nat)(s:ao):Prop where
 Ez:xK n S s
 home:∀ x∈s.a9,x.home=1000000
def FY(s s':ao):Prop:=∀ t,s.bound t=true->s'.bound t=true/\s'.to t=s.to t
theorem FY.refl(s:ao):FY s s:=λ_ h=>⟨h,rfl⟩
def FY.trans{a b c:ao}(h:FY a b)(k:FY b c):FY a c:=λt ht=>by
 obtain⟨M,O⟩:=h t ht;obtain⟨k1,k2⟩:=k t M;exact⟨k1,k2.trans O⟩
def nK.kept(h:nK s p):FY s p:=λt ht=>⟨by rw[h.bound];exact ht,h.to t⟩
def te.fO(h:te n S s){i:Nat}(hi:i<n):(s.fO (i:Int)).home=1000000:=by
 have cA:i<s.a9.length:=by rw[h.Ez.len];exact hi
 rw[oP cA];exact h.home _ (az cA)
theorem znJ(h:te n S s)(v:Int):Dc 1000000 s v=s:=by
 unfold Dc;split
 . rename_i hf;obtain⟨_,i,M,O,h3⟩:=NA (sl:=s.a9) (tr:=s.b7) hf;have M:v=(i:Int):=M;subst M;refine ziI (.refl s) ?_;rw[h.fO (by rw[<- h.Ez.len];exact O)];have:=h.fO (i:=i) (by rw[<- h.Ez.len];exact O);generalize s.fO (i:Int)=q at this;cases q
   grind
 . rfl
def Xa(h:te n S s):∀ l:Z Int,l.foldl (Dc 1000000) s=s
 | []=>rfl
 |v::l=>by rw[fQ,znJ h,Xa h l]
structure Up(n S:Nat)(s s':ao):Prop where
 fW:te n S s'
 b7:s'.b7.length<=s.b7.length+2
 Li:s'.Li+1=s.Li
 keeps:FY s s'
theorem zhs(h:te n S s){i:Nat}(hi:i<n)(h0:s.bound (fq (i:Int))=false){t:G}(ht:ic n S t)(hr:¬ s.Reach (i:Int) t):te n S (s.qN (i:Int) t)/\(s.qN (i:Int) t).b7.length=s.b7.length+1/\(s.qN (i:Int) t).Li+1=s.Li/\FY s (s.qN (i:Int) t):=by
 have cA:i<s.a9.length:=by rw[h.Ez.len];exact hi
 have hb:=Qk h.Ez hi;rw[h0]at hb
 have e:s.qN (i:Int) t=(s.set (i:Int) { s.fO (i:Int)with bound:=true,type:=t }).1:=by
  grind [qN,tH]
 rw[e];have hu:=zgB (s:=s) (i:=i) (x:={ s.fO (i:Int)with bound:=true,type:=t }) cA rfl;refine⟨⟨zmJ h.Ez hi rfl ht h0 hr,λx hx=>?_⟩,WO cA,zrp cA rfl (by rw[<- oP cA];exact hb),λu hub=>?_⟩
 . rw[xR cA]at hx;rcases gW hx with hx|rfl
   . exact h.home x hx
   . exact h.fO hi
 . by_cases hk:u.kind=1/\u.id=(i:Int)
   . have:s.bound u=s.bound (fq (i:Int)):=Mg (by rw[hk.1];rfl) hk.2
     grind
   . obtain⟨M,O⟩:=hu.1 u hk
     grind
def zsd (h:te n S s) (hS:1<=S) {i j:Nat} (hi:i<n) (hj:j<n) (qu:i≠j) (M:s.bound (fq (i:Int))=false) (O:s.bound (fq (j:Int))=false):Up n S s (s.vD (fq (i:Int)) (fq (j:Int))):=by
 have key:∀ {lo hi:Nat},lo<n->hi<n->lo≠hi->s.bound (fq (lo:Int))=false->s.bound (fq (hi:Int))=false->Up n S s ((s.tH (lo:Int) (s.pJ (lo:Int) (hi:Int))).qN (hi:Int) (fq (lo:Int))):=by
  intro lo hi Ge hhi cb pT zN7;have zn8:lo<s.a9.length:=by rw[h.Ez.len];exact Ge
  have M:te n S (s.tH (lo:Int) (s.pJ (lo:Int) (hi:Int)))/\nK s (s.tH (lo:Int) (s.pJ (lo:Int) (hi:Int)))/\(s.tH (lo:Int) (s.pJ (lo:Int) (hi:Int))).b7.length<=s.b7.length+1:=by
   unfold tH;split
   . exact⟨h,.refl,mF _⟩
   . have C:=zmK (s:=s) (i:=lo) (x:=s.pJ (lo:Int) (hi:Int)) zn8 (by unfold pJ;rw[oP zn8]) (by unfold pJ;rw[oP zn8]);refine⟨⟨C.Ez h.Ez,λx hx=>?_⟩,C,by rw[WO zn8];exact af _⟩;rw[xR zn8]at hx;rcases gW hx with hx|rfl
     . exact h.home x hx
     . show min (s.fO (lo:Int)).home (s.fO (hi:Int)).home=_;rw[h.fO Ge,h.fO hhi];rfl
  generalize s.tH (lo:Int) (s.pJ (lo:Int) (hi:Int))=s1 at M;obtain⟨b1,e1,t1⟩:=M
  have hr:¬ s1.Reach (hi:Int) (fq (lo:Int)):=by
   intro hr;have pZ:s1.bound (fq (lo:Int))=false:=by rw[e1.bound];exact pT
   cases hr with
   |here _ e=>simp[fq]at e;omega
   |to hb _=>rw[pZ]at hb;cases hb
   |arg _ hx _=>cases hx
  obtain⟨g1,g2,g3,g4⟩:=zhs b1 hhi (by rw[e1.bound];exact zN7) (ic.var (S:=S) Ge hS) hr;exact⟨g1,by omega,by rw[g3,e1.Li],e1.kept.trans g4⟩
 unfold vD;show Up n S s (if (j:Int)<(i:Int)then _ else _);split
 . exact key hj hi (Ne.symm qu) O M
 . exact key hi hj qu M O
theorem zhD(h:te n S s)(hS:1<=S)(hn:n*S+S<=90000){i:Nat}(hi:i<n)(h0:s.bound (fq (i:Int))=false){t:G}(ht:ic n S t):((s.pU (i:Int) t).2≠0/\(s.pU (i:Int) t).1=s)\/((s.pU (i:Int) t).2=0/\Up n S s (s.pU (i:Int) t).1):=by
 obtain⟨v1,v2,v3⟩:=h.Ez.vars hS ht (by omega);unfold pU;split
 . grind
 rename_i hm;split
 . grind
 split
 . grind
 refine .inr ⟨rfl,?_⟩;rw[h.fO hi,Xa h];obtain⟨g1,g2,g3,g4⟩:=zhs h hi h0 ht λhr=>hm (v3 _ h0 hr)
 exact⟨g1,by show (s.qN (i:Int) t).b7.length<=_;omega,g3,g4⟩
def zeh(h:te n S s)(hS:1<=S)(hn:n*S+S<=90000){a b:G}(ha:ic n S a)(hb:ic n S b) :
 ((s.je a b).2.1≠0/\(s.je a b).1=[]/\(s.je a b).2.2=s)\/s.je a b=([],0,s)\/(∃ s',s.je a b=([],0,s')/\Up n S s s') \/
 (s.je a b=(List.zipWith (λx y=>(⟨x,y⟩:bQ)) (s.w a).args (s.w b).args,0,s)/\(s.w a).kind≠1/\sz s.w a 200<=200):=by
 have C:=h.Ez;have Kn:ic n S (s.w a):=C.kM (af S) s.a9.length ha;have nw:ic n S (s.w b):=C.kM (af S) s.a9.length hb;have fa:s.bound (s.w a)=false:=by rw[C.zBE];exact(C.zj8 _ ha).walk.1
 have fb:s.bound (s.w b)=false:=by rw[C.zBE];exact(C.zj8 _ hb).walk.1
 have pa:=zht C (.refl s) Kn fa;have pb:=zht C (.refl s) nw fb;unfold je;rw[pa,pb];split
 . exact .inl ⟨(λe=>by cases e),rfl,rfl⟩
 rename_i b8;split
 . exact .inr (.inl rfl)
 rename_i cb;split
 . rename_i c2;obtain⟨i,hi,e1,zHB,b1,_⟩:=C.slot Kn c2 fa;split
   . rename_i c3;obtain⟨j,hj,e2,e2',b2,_⟩:=C.slot nw c3 fb;refine .inr (.inr (.inl ⟨_,rfl,?_⟩));rw[e1,e2];exact zsd h hS hi hj (λe=>cb ⟨by rw[e1];rfl,by rw[e2];rfl,by rw[zHB,e2',e]⟩) b1 b2
   . rw[zHB];rcases zhD h hS hn hi b1 nw with⟨M,O⟩|⟨M,O⟩
     . exact .inl ⟨M,rfl,O⟩
     . exact .inr (.inr (.inl ⟨_,by rw[M],O⟩))
 . rename_i c2;have hk:(s.w a).kind≠1:=λhk=>c2 (zro C Kn hk)
   split
   . rename_i c3;obtain⟨j,hj,e2,e2',b2,_⟩:=C.slot nw c3 fb;rw[e2'];rcases zhD h hS hn hj b2 Kn with⟨M,O⟩|⟨M,O⟩
     . exact .inl ⟨M,rfl,O⟩
     . exact .inr (.inr (.inl ⟨_,by rw[M],O⟩))
   . split
     . exact .inl ⟨(λe=>by cases e),rfl,rfl⟩
     . exact .inr (.inr (.inr ⟨rfl,hk,by omega⟩))
def zh5 (s:ao):∀ (f:Nat) (t:G) (st:Z Int×Z Bool),st.1.Nodup->(J.KC s f t st).1.Nodup:=by
 intro f
 induction f with
 |zero=>intro t st h;exact h
 | succ f ih =>
   intro t st h;rw[J.KC];split
   . split
     . split
       . exact ih _ _ h
       . exact h
     . split
       . exact h
       . rename_i hm;rw[List.nodup_append];exact⟨h,by simp,λa ha b hb e=>by rw[ay]at hb;subst hb;subst e;exact hm ha⟩
   . have key:∀ (l:Z G) (st:Z Int×Z Bool),st.1.Nodup->(l.foldl (λst x=>J.KC s f x st) st).1.Nodup:=by
      intro l
      induction l with
      |nil=>intro st h;exact h
      |cons x l tf=>intro st h;exact tf _ (ih x st h)
     exact key _ _ h
def zlv(h:xK n S s)(hS:1<=S){t:G}(ht:ic n S t)(hb:n*S+S<=100000):(nR s [t]).length<=n:=by
 obtain⟨v1,_,_⟩:=h.vars hS ht hb
 have hd:(nR s [t]).Nodup:=by
  unfold J.nR;exact zh5 s _ _ _ kL
 have:=zef n ((nR s [t]).map Int.toNat) ?_ ?_
 . rwa [aL]at this
 . refine List.Pairwise.map _ (λa b (h:a≠b/\0<=a/\0<=b)=>?_) (List.Pairwise.imp_of_mem (λ{a b} ha hb h=>⟨h,(v1 a ha).1,(v1 b hb).1⟩) hd);omega
 . intro x hx;obtain⟨v,hv,rfl⟩:=aI.1 hx;have:=v1 v hv;omega
def zrJ(h:te n S s)(hS:1<=S)(hn:n*S+S<=90000)(tw:n<=1000)(ht:s.b7.length<=3900){a b:G}(ha:ic n S a)(hb:ic n S b):∃ d1,∀ d,d1<=d->E9 d s a b:=by
 have C:=h.Ez;have Kn:ic n S (s.w a):=C.kM (af S) s.a9.length ha;have nw:ic n S (s.w b):=C.kM (af S) s.a9.length hb;obtain⟨f1,k1⟩:=zho (h:=(s.fO (s.w b).id).home) (C.zj8 _ Kn);obtain⟨f2,k2⟩:=zho (h:=(s.fO (s.w a).id).home) (C.zj8 _ nw);have zL9:Tw s ⟨s.a9,[]⟩:=⟨rfl,aW _⟩;refine⟨max f1 f2,λd hd=>⟨C.ll tw,ha.ok,hb.ok,ht,?_⟩⟩;intro v t zG5 _
 have key:ic n S t/\(eW ⟨s.a9,[]⟩ (s.fO v.id).home d t []).isSome=true:=by
  rcases zG5 with⟨rfl,rfl⟩|⟨rfl,rfl⟩
  . refine⟨nw,?_⟩;obtain⟨r,Ax⟩:=k2 [];rw[zL9.eW,FB (aO (jL f1 f2) hd) Ax];rfl
  . refine⟨Kn,?_⟩;obtain⟨r,Ax⟩:=k1 [];rw[zL9.eW,FB (aO (iG f1 f2) hd) Ax];rfl
 exact⟨zas C hS hn tw key.1,by have:=zlv C hS key.1 (by omega);omega,key.2⟩
end
end ao
end Go.J
set_option maxRecDepth 100000
namespace Go.J
open bo (enc)
namespace ao
section
variable {n S:Nat}{s p:ao}
inductive Bn (s:ao):G->G->Prop
 |to {t:G}:s.bound t=true->Bn s (s.to t) t
 |arg {t u:G}:t.kind≠1->u∈t.args->Bn s u t
 |trans {u v t:G}:Bn s u v->Bn s v t->Bn s u t
def Bl.trans{u v t:G}(h:Bl s u v)(k:Bl s v t):Bl s u t:=by
 induction h with
 |one h=>exact .more h k
 |more h _ ih=>exact .more h (ih k)
def Bn.bl{u t:G}(h:Bn s u t):Bl s u t:=by
 induction h with
 |to h=>exact .one (.inl ⟨h,rfl⟩)
 | @arg t u hk hu=>exact .one (.inr ⟨by
  cases hb:s.bound t with
  |false=>rfl
  |true=>exact absurd (zY hb) hk,hu⟩)
 |trans _ _ h k=>exact h.trans k
def Bn.keeps{u t:G}(h:Bn s u t)(k:FY s p):Bn p u t:=by
 induction h with
 | @to t h =>
   obtain⟨M,O⟩:=k t h;rw[<- O];exact .to M
 |arg hk hu=>exact .arg hk hu
 |trans _ _ h k=>exact h.trans k
def zge:∀ (k:Nat) (t:G),s.kM k t=t\/Bn s (s.kM k t) t
 | 0,t=>.inl rfl
 | k + 1,t=>by
   unfold kM
   cases hb:s.bound t with
   |false=>exact .inl rfl
   | true =>
     rw[if_pos rfl];rcases zge k (s.to t)with h|h
     . rw[h];exact .inr (.to hb)
     . exact .inr (h.trans (.to hb))
def dk:Z bQ->Z G
 | []=>[]
 |e::l=>e.left::dk l
def Zc(l:Z bQ):(dk l).length=l.length:=by
 induction l with
 |nil=>rfl
 |cons x l ih=>rw[dk,aX,aX,ih]
def O6(l m:Z bQ):dk (l++m)=dk l++dk m:=by
 induction l with
 |nil=>rfl
 |cons x l ih=>rw[eU,dk,dk,ih];rfl
inductive Fr (n S:Nat) (s:ao):List Nat->List bQ->Prop
 |base {l:List bQ}:G.bj (dk l)<=S->Fr n S s [] l
 |push {v:Nat} {V:List Nat} {l r:List bQ}:v<n->(∀ e∈l,Bn s e.left (fq (v:Int)))->G.bj (dk l)<=S->(∀ u∈V,Bn s (fq (v:Int)) (fq ((u:Nat):Int)))->Fr n S s V r->Fr n S s (v::V) (l++r)
theorem Fj(l m:Z G):G.bj (l++m)=G.bj l+G.bj m:=by
 induction l with
 |nil=>simp[G.bj]
 |cons x l ih=>simp only[eU,G.bj,ih];omega
def O5(l:Z bQ):l.length<=G.bj (dk l):=by
 induction l with
 |nil=>exact af _
 | cons x l ih =>
   have:=G.size_eq x.left;simp only[dk,G.bj,aX];omega
def Fr.keeps{V:Z Nat}{l:Z bQ}(h:Fr n S s V l)(k:FY s p):Fr n S p V l:=by
 induction h with
 |base h=>exact .base h
 |push hv M O h3 _ ih=>exact .push hv (λe he=>(M e he).keeps k) O (λu hu=>(h3 u hu).keeps k) ih
def Fr.nodup{V:Z Nat}{l:Z bQ}(h:Fr n S s V l)(C:xK n S s):V.Nodup/\(∀ v∈V,v<n)/\l.length<=S*(V.length+1):=by
 induction h with
 |base h=>exact⟨kL,λv hv=>(by cases hv),aO (O5 _) (by simpa using h)⟩
 | @push v V l r hv M O h3 _ ih =>
   obtain⟨i1,i2,i3⟩:=ih;refine⟨iH.2 ⟨λhm=>(h3 v hm).bl.zJr (C.fin v hv) ,i1⟩,λu hu=>?_,?_⟩
   . rcases aB.1 hu with rfl|hu
     . exact hv
     . exact i2 u hu
   . have:=O5 l;rw[bB,aX,Nat.mul_add S (V.length+1) 1];omega
def Fr.len{V:Z Nat}{l:Z bQ}(h:Fr n S s V l)(C:xK n S s):l.length<=S*(n+1):=by
 obtain⟨M,O,h3⟩:=h.nodup C;have:=zef n V M O;exact aO h3 (kK _ (by omega))
def Fr.tail{V:Z Nat}{l l':Z bQ}{e:bQ}(h:Fr n S s V l)(hl:l=e::l'):∃ V',Fr n S s V' l'/\∀ u∈V',Bn s e.left (fq ((u:Nat):Int)):=by
 induction h with
 | base h =>
   subst hl;simp only[dk,G.bj]at h;exact⟨[],.base (by omega),λu hu=>(by cases hu)⟩
 | @push v V l r hv M O h3 hr ih =>
   cases l with
   |nil=>exact ih hl
   | cons x l =>
     rw[eU,fT]at hl;obtain⟨rfl,rfl⟩:=hl;have hx:=M x (aD ..);simp only[dk,G.bj]at O;refine⟨v::V,.push hv (λe he=>M e (aF _ he)) (by omega) h3 hr,λu hu=>?_⟩;rcases aB.1 hu with rfl|hu
     . exact hx
     . exact hx.trans (h3 u hu)
theorem Fr.same{V:Z Nat}{l l' q:Z bQ}{e:bQ}(h:Fr n S s V l)(hl:l=e::l')(hq:∀ x∈q,Bn s x.left e.left)(hz:G.bj (dk q)<=e.left.size):∃ V',Fr n S s V' (q++l'):=by
 induction h with
 | base h =>
   subst hl;simp only[dk,G.bj]at h;exact⟨[],.base (by rw[O6,Fj];omega)⟩
 | @push v V l r hv M O h3 hr ih =>
   cases l with
   |nil=>exact ih hl
   | cons x l =>
     rw[eU,fT]at hl;obtain⟨rfl,rfl⟩:=hl;have hx:=M x (aD ..);simp only[dk,G.bj]at O;refine⟨v::V,?_⟩;rw[<- gu];refine .push hv (λe he=>?_) (by rw[O6,Fj];omega) h3 hr;rcases bA.1 he with he|he
     . exact(hq e he).trans hx
     grind
def Fr.deep{V:Z Nat}{l l' q:Z bQ}{e:bQ}{i:Nat}(h:Fr n S s V l)(hl:l=e::l')(he:e.left=fq (i:Int))(hi:i<n)(hq:∀ x∈q,Bn s x.left e.left)(hz:G.bj (dk q)<=S):∃ V',Fr n S s V' (q++l'):=by
 obtain⟨V',M,O⟩:=h.tail hl;rw[he]at O hq;exact⟨i::V',.push hi hq hz O M⟩
def zrc(w:G->G)(l m:Z G):u1 w (l++m)=u1 w l+u1 w m:=by
 induction l with
 |nil=>simp[u1]
 |cons x l ih=>simp only[eU,u1,ih];omega
def zrd(w:G->G)(l:Z G):u1 w l<=201*l.length:=by
 induction l with
 |nil=>exact af _
 |cons x l ih=>have:=zuj (w:=w) x 200;simp only[u1,aX];omega
def zan(w:G->G):∀ l m:Z G,u1 w (dk (List.zipWith (λx y=>(⟨x,y⟩:bQ)) l m))<=u1 w l/\G.bj (dk (List.zipWith (λx y=>(⟨x,y⟩:bQ)) l m))<=G.bj l
 | [],m=>⟨aW _,aW _⟩
 |x::l,[]=>⟨aW _,aW _⟩
 | x::l,y::m=>by
   have:=zan w l m;simp only[List.zipWith_cons_cons,dk,u1,G.bj];omega
def RV:∀ {l m:Z G} {e:bQ},e∈List.zipWith (λx y=>(⟨x,y⟩:bQ)) l m->e.left∈l/\e.right∈m
 | [],m,e,h=>by cases h
 |x::l,[],e,h=>by cases h
 | x :: l,y::m,e,h=>by
   rw[List.zipWith_cons_cons]at h;rcases aB.1 h with rfl|h
   . exact⟨aD ..,aD ..⟩
   . obtain⟨M,O⟩:=RV h;exact⟨aF _ M,aF _ O⟩
structure ztV(n S:Nat)(s:ao)(l:List bQ)(d1 f:Nat)(r:ao×Int):Prop where
 run:∀ d,d1<=d->∀ g,jq d (g+f) s l=some r
 fW:te n S r.1
 b7:r.1.b7.length+2*r.1.Li<=s.b7.length+2*s.Li
 keeps:FY s r.1
def Ic{s s':ao}{l' q:Z bQ}{e:bQ}{d0 d1 f:Nat}{r:ao×Int}(hp:∀ d,d0<=d->E9 d s e.left e.right)(hl:l'.length<=7000)(hq:q.length<=1000)(hP:s.je e.left e.right=(q,0,s'))(hu:s'.b7.length+2*s'.Li<=s.b7.length+2*s.Li)(hk:FY s s')(h:ztV n S s' (q++l') d1 f r):ztV n S s (e::l') (max d0 d1) (f+1) r:=by
 refine⟨λd hd g=>?_,h.fW,aO h.b7 hu,hk.trans h.keeps⟩;show jq d (g+f+1) s (e::l')=_;rw[jq,if_pos ⟨hp d (by omega),hl,by rw[hP];exact hq⟩,if_pos (by rw[hP]),hP];exact h.run d (by omega) g
theorem zaq (hS:1<=S) (hS2:S<=1000) (hn:n*S+S<=90000) (tw:n<=1000) (sq:S*(n+1)<=7000):∀ (cJ:Nat) {s:ao} {V:Z Nat} {l:Z bQ},te n S s->Fr n S s V l->(∀ e∈l,ic n S e.left/\ic n S e.right)->s.b7.length+2*s.Li<=3900->s.Li*2000000+u1 s.w (dk l)<=cJ->∃ d1 f r,ztV n S s l d1 f r:=by
 intro cJ
 induction cJ with
 | zero =>
   intro s V l h hf ht KB hM
   cases l with
   |nil=>exact⟨0,1,(s,0),λd _ g=>rfl,h,af _,.refl s⟩
   | cons e l =>
     grind [zmi,w,dk,u1]
 | succ cJ ih =>
   intro s V l h hf ht KB hM
   cases l with
   |nil=>exact⟨0,1,(s,0),λd _ g=>rfl,h,af _,.refl s⟩
   | cons e l =>
     obtain⟨ha,hb⟩:=ht e (aD ..);have ht':∀ x∈l,ic n S x.left/\ic n S x.right:=λx hx=>ht x (aF _ hx)
     have hp:=zmi (w:=s.w) e.left 200;simp only[dk,u1]at hM;have hlen:=hf.len h.Ez;rw[aX]at hlen;obtain⟨d0,er⟩:=zrJ h hS hn tw (by omega) ha hb;obtain⟨V',AG,_⟩:=hf.tail rfl;rcases zeh h hS hn ha hb with⟨M,O,h3⟩|M|⟨s',M,hu⟩|⟨M,hk,hz⟩
     . refine⟨d0,1,(s,(s.je e.left e.right).2.1),λd hd g=>?_,h,af _,.refl s⟩
       grind [jq]
     . obtain⟨d1,f,r,hr⟩:=ih h AG ht' KB (by omega);exact⟨_,_,_,Ic er (by omega) (aW _) M (af _) (.refl s) hr⟩
     . have zKq:=zrd s'.w (dk l);have hu1:=hu.Li;have hu2:=hu.b7;rw[Zc]at zKq
       have Z1:s'.Li*2000000+u1 s'.w (dk l)<=cJ:=by
        grind
       obtain⟨d1,f,r,hr⟩:=ih hu.fW (AG.keeps hu.keeps) ht' (by omega) Z1;exact⟨_,_,_,Ic er (by omega) (aW _) M (by omega) hu.keeps hr⟩
     . have C:=h.Ez;have Kn:ic n S (s.w e.left):=C.kM (af S) s.a9.length ha;have nw:ic n S (s.w e.right):=C.kM (af S) s.a9.length hb;obtain⟨z1,z2⟩:=zan s.w (s.w e.left).args (s.w e.right).args;have z3:=zmh (w:=s.w) (a:=e.left) hz;have z4:=G.size_eq (s.w e.left);have z5:=Kn.size
       have hbn:∀ x∈List.zipWith (λx y=>(⟨x,y⟩:bQ)) (s.w e.left).args (s.w e.right).args,Bn s x.left e.left:=λx hx=>by
        have O:Bn s x.left (s.w e.left):=.arg hk (RV hx).1;rcases zge (s:=s) s.a9.length e.left with hw|hw
        . have hw:s.w e.left=e.left:=hw
          rwa [hw]at O
        . exact O.trans hw
       have hq:∃ V',Fr n S s V' (List.zipWith (λx y=>(⟨x,y⟩:bQ)) (s.w e.left).args (s.w e.right).args++l):=by
        by_cases u9:e.left.kind=1
        . have e1:=zw ha.plain u9;obtain⟨v0,v1⟩:=ha.vars _ (.self u9);obtain⟨i,hi⟩:=bK v0;rw[hi]at e1 v1;exact hf.deep rfl e1 (by omega) hbn (by omega)
        . have hw:s.w e.left=e.left:=Ou (by
           cases hb:s.bound e.left with
           |false=>rfl
           |true=>exact absurd (zY hb) u9) _
          rw[hw]at z4;refine hf.same rfl hbn ?_
          grind
       obtain⟨V2,hq⟩:=hq
       have D1:(List.zipWith (λx y=>(⟨x,y⟩:bQ)) (s.w e.left).args (s.w e.right).args).length<=1000:=by
        have:=O5 (List.zipWith (λx y=>(⟨x,y⟩:bQ)) (s.w e.left).args (s.w e.right).args);omega
       obtain⟨d1,f,r,hr⟩:=ih h hq (λx hx=>by
        rcases bA.1 hx with hx|hx
        . exact⟨Kn.arg (RV hx).1,nw.arg (RV hx).2⟩
        . exact ht' x hx) KB (by rw[O6,zrc];omega)
       exact⟨_,_,_,Ic er (by omega) D1 M (af _) (.refl s) hr⟩
def zh3(hS:1<=S)(hS2:S<=1000)(hn:n*S+S<=90000)(tw:n<=1000)(sq:S*(n+1)<=7000){s:ao}{a b:G}(h:te n S s)(ha:ic n S a)(hb:ic n S b)(ht:s.b7.length+2*s.Li<=3900):∃ d1 f r,ztV n S s [⟨a,b⟩] d1 f r :=
 zaq hS hS2 hn tw sq _ h (V:=[]) (.base (by simp only[dk,G.bj];have:=ha.size;omega)) (λe he=>by rw[ay]at he;subst he;exact⟨ha,hb⟩) ht (af _)
end
end ao
end Go.J
set_option maxRecDepth 100000
namespace Go.J
open bo (enc)
variable {h i m:Int}{d:Nat}{s':ao}
structure Rep0(fr to:G):Prop where
 fk:fr.kind=3
 fa:fr.args=[]
 fh:fr.home=0
 tk:to.kind≠1
 zLl:to.kind≠2
 ta:to.args=[]
 th:to.home=0
 tok:to.ok=true
 tr:¬ (to.kind=4/\to.name=[45,62])
def G.th(t fr to:G):G:=t.D8 λu=>if u=fr then to else u
section
variable {fr to:G}(H:Rep0 fr to)
include H
theorem zaL(t:G):t.th fr to=if t=fr then to else .mk t.kind t.name t.id t.home (t.args.map (G.th · fr to)):=by
 by_cases ha:t.args=[]
 . unfold G.th;rw[Fv ha,ha];split
   . rfl
   . cases t
     simp_all
 . rw[if_neg (λe=>ha (by rw[e];exact H.fa))];exact Av ha
def SQ:fr.th fr to=to:=by rw[zaL H,if_pos rfl]
def xz{t:G}(h:t≠fr):t.th fr to=.mk t.kind t.name t.id t.home (t.args.map (G.th · fr to)):=by rw[zaL H,if_neg h]
def BS(t:G):(t.th fr to).args=t.args.map (G.th · fr to):=by
 rw[zaL H];split
 . rename_i h;rw[h,H.ta,H.fa];rfl
 . rfl
def zuh{t:G}(h:t.kind=1):t≠fr:=λe=>by rw[e,H.fk]at h;cases h
theorem tV(t:G):((t.th fr to).kind=1)=(t.kind=1):=by
 rw[zaL H];split
 . rename_i h;rw[h,H.fk];simp[H.tk]
 . rfl
theorem Ii{t:G}(h:t.kind=1):(t.th fr to).id=t.id:=by rw[xz H (zuh H h)];rfl
theorem MK(i:Int):(fq i).th fr to=fq i:=by rw[xz H (zuh H rfl)];rfl
theorem Oz:tT.th fr to=tT:=by rw[xz H (λe=>by have:=H.fk;rw[<- e]at this;cases this)];rfl
def F8(t:G):(t.th fr to).size=t.size:=by
 induction t using G.ind with
 | h t ih =>
   rw[G.size_eq,G.size_eq t,BS H]
   congr 1
   have:∀ l:Z G,(∀ x∈l,(x.th fr to).size=x.size)->G.bj (l.map (G.th · fr to))=G.bj l:=by
    intro l
    induction l with
    |nil=>intro _;rfl
    |cons x l tf=>intro h;rw[aR,G.bj,G.bj,h x (aD ..),tf λy hy=>h y (aF _ hy)]
   exact this _ ih
def zl2(l:Z G):G.bj (l.map (G.th · fr to))=G.bj l:=by
 induction l with
 |nil=>rfl
 |cons x l ih=>rw[aR,G.bj,G.bj,F8 H,ih]
theorem WC{t:G}(h:t.ok=true):(t.th fr to).ok=true:=by
 induction t using G.ind with
 | h t ih =>
   rw[zaL H];split
   . exact H.tok
   . have M:=G.oF.1 h;refine G.oF.2 ⟨by simpa using M.1,λx hx=>?_⟩;obtain⟨y,hy,rfl⟩:=aI.1 hx
     grind
def zv4{l:Z G}(h:G.eK l=true):G.eK (l.map (G.th · fr to))=true:=G.lD.2 λx hx=>by
 obtain⟨y,hy,rfl⟩:=aI.1 hx;exact WC H (G.lD.1 h y hy)
theorem zaO(t:G):(isArrow (t.th fr to)).c=(isArrow t).c/\((isArrow t).c=true->(isArrow (t.th fr to)).a=(isArrow t).a.th fr to/\(isArrow (t.th fr to)).b=(isArrow t).b.th fr to):=by
 by_cases h:t=fr
 . rw[h,SQ H];unfold isArrow;rw[if_neg H.tr,if_neg (λhh=>by have:=hh.1;rw[H.fk]at this;cases this)]
   grind
 . rw[xz H h];obtain⟨k,nm,i,hm,l⟩:=t;unfold isArrow;by_cases hk:k=4/\nm=[45,62]
   . simp only[G.fw,G.jC,G.fC,if_pos hk]
     match l with
     | []=>exact⟨rfl,λe=>by cases e⟩
     | [a]=>exact⟨rfl,λe=>by cases e⟩
     | [a,b]=>exact⟨rfl,λ_=>⟨rfl,rfl⟩⟩
     |a::b::c::m=>exact⟨rfl,λe=>by cases e⟩
   . simp only[G.fw,G.jC,G.fC,if_neg hk]
     grind
end
def Slot.th(fr to:G)(x:Slot):Slot:={ x with type:=x.type.th fr to }
def Slot.zq5{fr to:G}{x:Slot}:(x.th fr to).home=x.home:=rfl
def Slot.zq8{fr to:G}{x:Slot}:(x.th fr to).base=x.base:=rfl
def Change.th(fr to:G)(x:Change):Change:={ x with gg:=x.gg.th fr to }
def bQ.th(fr to:G)(x:bQ):bQ:=⟨x.left.th fr to,x.right.th fr to⟩
namespace ao
def th(fr to:G)(s:ao):ao:=⟨s.a9.map (Slot.th fr to),s.b7.map (Change.th fr to)⟩
section
variable {fr to:G}(H:Rep0 fr to){s:ao}
include H
omit H in
def ij (i:Int):(s.th fr to).cg i=(s.cg i).map (Slot.th fr to):=by
 unfold cg;split
 . exact bC ..
 . rfl
theorem Aq(i:Int):(s.th fr to).fO i=(s.fO i).th fr to:=by
 unfold fO;rw[ij]
 cases s.cg i with
 | none =>
   grind [zup,Slot.th,to,Oz]
 |some x=>rfl
theorem zaM(t:G):(s.th fr to).bound (t.th fr to)=s.bound t:=by
 unfold bound;rw[ij];by_cases hk:t.kind=1
 . rw[Ii H hk,decide_eq_true hk,decide_eq_true (by rw[tV H];exact hk)];cases s.cg t.id<;>rfl
 grind [tV]
def zug{t:G}(hk:t.kind=1):(s.th fr to).to (t.th fr to)=(s.to t).th fr to:=by
 unfold ao.to;rw[ij,Ii H hk]
 cases s.cg t.id with
 |none=>exact(Oz H).symm
 |some x=>rfl
def zaF:∀ (k:Nat) (t:G),(s.th fr to).kM k (t.th fr to)=(s.kM k t).th fr to
 | 0,t=>rfl
 | k + 1,t=>by
   unfold kM;rw[zaM H];split
   . rename_i hb;rw[zug H (zY hb),zaF k]
   . rfl
omit H in
def Yq:(s.th fr to).a9.length=s.a9.length:=aL ..
theorem zlZ(t:G):(s.th fr to).w (t.th fr to)=(s.w t).th fr to:=by
 simp_all [w,Yq,zaF]
def zl0:∀ (f:Nat) (t:G) (m:Nat),WI (s.th fr to).w f (t.th fr to) m=WI s.w f t m
 | 0,t,m=>rfl
 | f + 1,t,m=>by
   rw[WI,WI,zlZ H,BS H]
   congr 1
   have:∀ (l:Z G) (k:Nat),VH (WI (s.th fr to).w f) m (l.map (G.th · fr to)) k=VH (WI s.w f) m l k:=by
    intro l
    induction l with
    |nil=>intro k;rfl
    |cons x l ih=>intro k;rw[aR,VH,VH,zl0 f,ih]
   exact this _ _
def zl1(t:G)(m:Nat):sz (s.th fr to).w (t.th fr to) m=sz s.w t m:=zl0 H _ t m
def zdC:∀ (f:Nat) (t:G) (st:Z Int×Z Bool),KC (s.th fr to) f (t.th fr to) st=KC s f t st
 | 0,t,st=>rfl
 | f + 1,t,st=>by
   have key:∀ (l:Z G) (st:Z Int×Z Bool),(l.map (G.th · fr to)).foldl (λst x=>KC (s.th fr to) f x st) st=l.foldl (λst x=>KC s f x st) st:=by
    intro l
    induction l with
    |nil=>intro st;rfl
    |cons x l ih=>intro st;rw[aR,fQ,fQ,zdC f,ih]
   rw[KC,KC,zaM H,BS H,key];by_cases hk:t.kind=1
   . rw[if_pos hk,if_pos (by rw[tV H];exact hk),Ii H hk,zug H hk,zdC f]
   . rw[if_neg hk,if_neg (by rw[tV H];exact hk)]
def zaG(t:G):nR (s.th fr to) [t.th fr to]=nR s [t]:=by
 unfold nR;rw[Yq];simp only[fQ,List.foldl_nil,zdC H]
def SN  (hh:0<=h):∀ (f:Nat) (t:G) (sn:Z Int),eW (s.th fr to) h f (t.th fr to) sn=eW s h f t sn
 | 0,t,sn=>rfl
 | f + 1,t,sn=>by
   have key:∀ (l:Z G) (sn:Z Int),vt (eW (s.th fr to) h f) (l.map (G.th · fr to)) sn=vt (eW s h f) l sn:=by
    intro l
    induction l with
    |nil=>intro sn;rfl
    | cons x l ih =>
      intro sn;rw[aR,vt,vt,SN hh f];split
      . rfl
      . rfl
      . exact ih _
   rw[eW,eW,BS H,key,ij];by_cases hk:t.kind=1
   . rw[if_pos hk,if_pos (by rw[tV H];exact hk),Ii H hk]
     cases s.cg t.id with
     |none=>rfl
     | some x =>
       show (if t.id∈sn then _ else if x.bound=true then eW (s.th fr to) h f (x.type.th fr to) _ else _)=_;rw[SN hh f]
   . rw[if_neg hk,if_neg (by rw[tV H];exact hk)];by_cases he:t=fr
     . rw[he,SQ H,if_pos H.fk,H.fh,H.fa,H.th,decide_eq_false (by omega)];split<;>rfl
     . rw[xz H he];rfl
def zl7(hh:0<=h)(t:G):(s.th fr to).Qx h (t.th fr to)=s.Qx h t:=by
 by_cases hx:∃ q,∃ f,eW s h f t []=some q
 . obtain⟨q,f,hq⟩:=hx;rw[Uz hq,Uz (by rw[SN H hh];exact hq)]
 . unfold Qx;rw[dif_neg hx,dif_neg (λ⟨q,f,hq⟩=>hx ⟨q,f,by rw[<- hq,SN H hh]⟩)]
theorem zil(t:G):(s.th fr to).nH (t.th fr to)=s.nH t:=by
 unfold nH;by_cases hk:t.kind=1
 . rw[Ii H hk,ij,decide_eq_true hk,decide_eq_true (by rw[tV H];exact hk)]
   grind
 grind [tV]
theorem MM(t:G):(s.th fr to).nA (t.th fr to)=s.nA t:=by
 unfold nA;rw[zil H];by_cases hk:t.kind=1
 . rw[Ii H hk,Aq H];rfl
 grind [nH]
theorem zv3(i:Int)(x:Slot):((s.th fr to).set i (x.th fr to)).1=(s.set i x).1.th fr to:=by
 unfold ao.set;rw[ij]
 cases s.cg i with
 |none=>rfl
 |some gg=>simp[ao.th,Change.th]
theorem Yp(i:Int)(x:Slot):(s.th fr to).tH i (x.th fr to)=(s.tH i x).th fr to:=by
 unfold tH;rw[Aq H,zv3 H];show (if (s.fO i).bound=x.bound/\(s.fO i).home=x.home/\(s.fO i).base=x.base then _ else _)=_;split<;>rfl
theorem zaK(i:Int)(t:G):(s.th fr to).qN i (t.th fr to)=(s.qN i t).th fr to:=by
 unfold qN;rw[Aq H,<- Yp H];rfl
theorem zik(i j:Int):(s.th fr to).pJ i j=(s.pJ i j).th fr to:=by
 unfold pJ;rw[Aq H,Aq H];rfl
theorem zl6{a b:G}(ha:a.kind=1)(hb:b.kind=1):(s.th fr to).vD (a.th fr to) (b.th fr to)=(s.vD a b).th fr to:=by
 grind [vD,Ii,zik,Yp,zaK]
def zq4(h v:Int):Dc h (s.th fr to) v=(Dc h s v).th fr to:=by
 unfold Dc;have:=MM H (s:=s) (fq v);rw[MK H]at this;rw[this,Aq H];split
 . exact Yp H v { s.fO v with home:=min (s.fO v).home h }
 . rfl
def zgp(h:Int):∀ (l:Z Int) (s:ao),l.foldl (Dc h) (s.th fr to)=(l.foldl (Dc h) s).th fr to
 | [],s=>rfl
 |v::l,s=>by rw[fQ,fQ,zq4 H,zgp h l]
end
def Hp(s:ao):Prop:=∀ x∈s.a9,0<=x.home
section
variable {s:ao}
theorem Dj(h:Hp s)(i:Int):0<=(s.fO i).home:=by
 unfold fO
 cases C:s.cg i with
 |none=>exact fA _
 | some x =>
   obtain⟨j,hj,_,hx⟩:=ft C;exact h x (by rw[<- hx];exact az _)
theorem Zk(h:Hp s){x:Slot}(hx:0<=x.home):Hp (s.tH i x):=by
 unfold tH;split
 . exact h
 . unfold ao.set
   cases s.cg i with
   |none=>exact h
   | some gg =>
     intro y hy;rcases gW hy with hy|rfl
     . exact h y hy
     . exact hx
theorem zhl(h:Hp s){t:G}:Hp (s.qN i t):=Zk h (Dj h i)
theorem zjQ(h:Hp s)(i j:Int):0<=(s.pJ i j).home:=by
 have M:=Dj h i;have O:=Dj h j;show 0<=min _ _;omega
theorem zsv(h:Hp s)(a b:G):Hp (s.vD a b):=by
 grind [vD,zhl,Zk,zjQ]
theorem zxl(h:Hp s)(hm:0<=m)(v:Int):Hp (Dc m s v):=by
 grind [Dc,Dj,Zk]
theorem zhk(hm:0<=m):∀ (l:Z Int) {s:ao},Hp s->Hp (l.foldl (Dc m) s)
 | [],_,h=>h
 |v::l,_,h=>zhk hm l (zxl h hm v)
theorem zsw(h:Hp s)(v:Int)(t:G):Hp (s.pU v t).1:=by
 grind [pU,zhl,zhk,Dj]
theorem zsu(h:Hp s)(a b:G):Hp (s.je a b).2.2:=by
 grind [je,zsv,zsw]
end
section
variable {fr to:G}(H:Rep0 fr to){s:ao}
include H
theorem zaN(h:Hp s)(v:Int)(t:G):(s.th fr to).pU v (t.th fr to)=((s.pU v t).1.th fr to,(s.pU v t).2):=by
 unfold pU;simp only[zaG H,Aq H,Slot.zq5,Slot.zq8,(zaO H t).1,zgp H,zaK H,zl7 H (Dj h v)];by_cases c1:v∈nR s [t]
 . rw[if_pos c1,if_pos c1]
 rw[if_neg c1,if_neg c1];by_cases c2:(s.fO v).base=true/\(isArrow t).c=true
 . rw[if_pos c2,if_pos c2]
 rw[if_neg c2,if_neg c2];by_cases c3:s.Qx (s.fO v).home t=true
 . rw[if_pos c3,if_pos c3]
 rw[if_neg c3,if_neg c3]
def zmc{a b:G}(h:¬ fg a b):¬ fg (a.th fr to) (b.th fr to):=by
 unfold fg at h ⊢;simp only[not_or,Classical.not_not]at h ⊢;obtain⟨M,O,h3,h4,h5⟩:=h
 have key:a=fr↔b=fr:=by
  obtain⟨k,nm,i,hm,l⟩:=a;obtain⟨k2,nm2,i2,jz,l2⟩:=b;simp only[G.fw,G.jC,G.o5,G.sJ,G.fC]at M O h3 h4 h5;subst M O h3 h4;constructor
  . intro e;have:=H.fa;rw[<- e]at this;obtain rfl:l=[]:=this;obtain rfl:l2=[]:=dM h5.symm;exact e
  . intro e;have:=H.fa;rw[<- e]at this;obtain rfl:l2=[]:=this;obtain rfl:l=[]:=dM h5;exact e
 by_cases he:a=fr
 . rw[key.1 he,he];exact⟨rfl,rfl,rfl,rfl,rfl⟩
 . rw[xz H he,xz H (λe=>he (key.2 e))];exact⟨M,O,h3,h4,by simpa using h5⟩
theorem zq2(h:Hp s){a b:G}{q:Z bQ}(hq:s.je a b=(q,0,s')):(s.th fr to).je (a.th fr to) (b.th fr to)=(q.map (bQ.th fr to),0,s'.th fr to):=by
 have e1:=zlZ H (s:=s) a;have e2:=zlZ H (s:=s) b;have e3:=zl1 H (s:=s) a 200;have e4:=zl1 H (s:=s) b 200;unfold je at hq ⊢;rw[e1,e2,e3,e4,MM H,MM H];generalize s.w a=A at hq ⊢;generalize s.w b=B at hq ⊢
 have hid:((A.th fr to).kind=1/\(B.th fr to).kind=1/\(A.th fr to).id=(B.th fr to).id)↔(A.kind=1/\B.kind=1/\A.id=B.id):=by
  grind [tV,Ii]
 have hfa:s.nA A=true->A.kind=1:=λhh=>by
  unfold nA nH at hh
  grind
 have hfb:s.nA B=true->B.kind=1:=λhh=>by
  unfold nA nH at hh
  grind
 split at hq
 . cases hq
 rename_i c1;rw[if_neg c1];split at hq
 . grind
 rename_i c2;rw[if_neg (λhh=>c2 (hid.1 hh))];split at hq
 . grind [zl6,Ii,zaN,Prod.mk.injEq]
 rename_i c3;rw[if_neg c3];split at hq
 . grind [Ii,zaN,Prod.mk.injEq]
 rename_i c4;rw[if_neg c4];split at hq
 . cases hq
 rename_i c5;rw[if_neg (zmc H c5),BS H,BS H];cases hq
 congr 1
 rw[List.map_zipWith,List.zipWith_map];rfl
def SI(h:s.ll):(s.th fr to).ll:=by
 refine⟨by rw[Yq];exact h.1,λx hx=>?_⟩;obtain⟨y,hy,rfl⟩:=aI.1 hx;exact WC H (h.2 y hy)
def zv2(l:Z Slot):∀ m:Z Bool,J.ia (l.map (Slot.th fr to)) m=J.ia l m:=by
 induction l with
 |nil=>intro m;rfl
 | cons x l ih =>
   intro m
   cases m with
   |nil=>rfl
   | cons b m =>
     rw[aR,J.ia,J.ia,ih];show (if b=true then 0 else (x.type.th fr to).size)+_=_;rw[F8 H]
def zij{t:G}(h:tO s [t]):tO (s.th fr to) [t.th fr to]:=by
 obtain⟨M,O,h3,h4⟩:=h;refine⟨SI H M,zv4 H O,h3,?_⟩;have e1:=zl2 H [t];rw[aR,iP]at e1;rw[e1,Yq];show _+J.ia (s.a9.map (Slot.th fr to)) _<=_;rw[zv2 H];exact h4
theorem zim(h:Hp s){a b:G}(hp:E9 d s a b):E9 d (s.th fr to) (a.th fr to) (b.th fr to):=by
 obtain⟨M,O,h3,h4,h5⟩:=hp;refine⟨SI H M,WC H O,WC H h3,by unfold th;rw[aL];exact h4,?_⟩;intro v t zG5 hf
 have key:∀ v t:G,(v=s.w a/\t=s.w b)\/(v=s.w b/\t=s.w a)->(s.th fr to).nA (v.th fr to)=true->tO (s.th fr to) [t.th fr to]/\(nR (s.th fr to) [t.th fr to]).length<=1000/\(eW ⟨(s.th fr to).a9,[]⟩ ((s.th fr to).fO (v.th fr to).id).home d (t.th fr to) []).isSome=true:=by
  intro v t zG5 hf;rw[MM H]at hf;obtain⟨g1,g2,g3⟩:=h5 v t zG5 hf
  have hk:v.kind=1:=by
   unfold nA nH at hf
   grind
  refine⟨zij H g1,by rw[zaG H];exact g2,?_⟩;rw[Ii H hk,Aq H];have e:=SN H (s:=⟨s.a9,[]⟩) (Dj h v.id) d t [];show (eW (ao.th fr to ⟨s.a9,[]⟩) (s.fO v.id).home d (t.th fr to) []).isSome=true
  grind
 grind [zlZ]
def WB :∀ (f:Nat) {s:ao} {l:Z bQ} {r:ao},Hp s->jq d f s l=some (r,0)->jq d f (s.th fr to) (l.map (bQ.th fr to))=some (r.th fr to,0)/\Hp r
 | 0,s,l,r,h,hr=>by cases hr
 |f+1,s,[],r,h,hr=>by cases hr;exact⟨rfl,h⟩
 | f + 1,s,e::l,r,h,hr=>by
   rw[jq]at hr;split at hr
   . rename_i hg;split at hr
     . rename_i h0;have hP:=zsu h e.left e.right;have e0:s.je e.left e.right=((s.je e.left e.right).1,0,(s.je e.left e.right).2.2):=by rw[<- h0]
       have e1:=zq2 H h e0;obtain⟨i1,i2⟩:=WB f hP hr;refine⟨?_,i2⟩
       have g1:((s.th fr to).je (e.th fr to).left (e.th fr to).right).1.length<=1000:=by
        show ((s.th fr to).je (e.left.th fr to) (e.right.th fr to)).1.length<=1000;rw[e1,aL];exact hg.2.2
       have g2:((s.th fr to).je (e.th fr to).left (e.th fr to).right).2.1=0:=by
        show ((s.th fr to).je (e.left.th fr to) (e.right.th fr to)).2.1=0;rw[e1]
       have g3:(l.map (bQ.th fr to)).length<=7000:=by rw[aL];exact hg.2.1
       rw[aR,jq,if_pos ⟨zim H h hg.1,g3,g1⟩,if_pos g2];show jq d f ((s.th fr to).je (e.left.th fr to) (e.right.th fr to)).2.2 (((s.th fr to).je (e.left.th fr to) (e.right.th fr to)).1++_)=_;rw[e1,<- i1,dz]
     . rename_i h0;simp only[mE,gG]at hr;exact absurd hr.2 h0
   . cases hr
end
end ao
end Go.J
set_option maxRecDepth 100000
namespace Go.J
open bo (enc)
def ic.up{n n' S:Nat}{t:G}(h:ic n S t)(hn:n<=n'):ic n' S t:=⟨h.ok,h.plain,h.size,λu hu=>by have:=h.vars u hu;omega⟩
def ic.node{n S:Nat}{t:G}(hk:t.kind≠1)(ho:t.ok=true)(C:t.size<=S)(ha:∀ x∈t.args,ic n S x):ic n S t:=⟨ho,Ih hk λx hx=>(ha x hx).plain,C,λu hu=>by
 cases hu with
 |self h=>exact absurd h hk
 |arg _ hx hu=>exact(ha _ hx).vars u hu⟩
def ic.self{n S:Nat}{t:G}(h:ic n S t):ic n t.size t:=⟨h.ok,h.plain,af _,h.vars⟩
def zbq {g:G->G} {n n':Nat} (hg:∀ x:G,x.args=[]->ic n 1 x->ic n' 1 (g x)) (t:G):∀ {S:Nat},ic n S t->ic n' S (t.D8 g)/\(t.D8 g).size=t.size:=by
 induction t using G.ind with
 | h t ih =>
   intro S h;by_cases ha:t.args=[]
   . rw[Fv ha];have C:t.size=1:=by rw[G.size_eq,ha];rfl
     have M:=hg t ha (by have:=h.self;rwa [C]at this);have hp:=M.size;have hq:=G.size_eq (g t);have:=h.size;exact⟨M.le (by omega),by omega⟩
   . have hk:t.kind≠1:=λhk=>ha (h.zns hk)
     have key:∀ l:Z G,(∀ x∈l,(x.D8 g).size=x.size)->G.bj (l.map (G.D8 g))=G.bj l:=by
      intro l
      induction l with
      |nil=>intro _;rfl
      |cons x l tf=>intro hh;rw[aR,G.bj,G.bj,hh x (aD ..),tf λy hy=>hh y (aF _ hy)]
     have hz:(t.D8 g).size=t.size:=by
      rw[Av ha,G.size_eq,G.size_eq t];simp only[G.fC];rw[key t.args λx hx=>(ih x hx (h.arg hx)).2]
     refine⟨?_,hz⟩;have ZD:(t.D8 g).args=t.args.map (G.D8 g):=by rw[Av ha];rfl
     refine ic.node (by rw[Av ha];exact hk) ?_ (by rw[hz];exact h.size) λx hx=>?_
     . refine G.oF.2 ⟨by rw[ZD,aL];exact(G.oF.1 h.ok).1,λx hx=>?_⟩;rw[ZD]at hx;obtain⟨y,hy,rfl⟩:=aI.1 hx;exact(ih y hy (h.arg hy)).1.ok
     . rw[ZD]at hx;obtain⟨y,hy,rfl⟩:=aI.1 hx;exact(ih y hy (h.arg hy)).1
namespace ao
section
variable {n S:Nat}{s:ao}
theorem zc4{x:Slot}{tr:Z Change}(id:Int):(⟨s.a9++[x],tr⟩:ao).cg id=if id=(s.a9.length:Int)then some x else s.cg id:=by
 unfold cg
 grind
theorem PS{x:Slot}(hx:x.bound=false){tr:Z Change}(t:G):(⟨s.a9++[x],tr⟩:ao).bound t=s.bound t:=by
 unfold bound;rw[zc4];by_cases h:t.id=(s.a9.length:Int)
 . rw[if_pos h]
   have:s.cg t.id=none:=by
    rw[h,fj]
    grind
   grind
 grind
theorem zyw{x:Slot}{tr:Z Change}{t:G}(h:s.bound t=true):(⟨s.a9++[x],tr⟩:ao).to t=s.to t:=by
 obtain⟨_,i,y,hi,hl,_⟩:=pM h;unfold ao.to
 grind [zc4]
def ztx{x:Slot}(hx:x.bound=false){tr:Z Change}{t:G}(h:s.Fin t):(⟨s.a9++[x],tr⟩:ao).Fin t:=by
 refine Fin.ind (p:=(⟨s.a9++[x],tr⟩:ao).Fin) (λt hb ih=>?_) (λt hb ih=>?_) h
 . exact .RT ((PS hx t).trans hb) (by rw[zyw hb];exact ih)
 . exact .zzU ((PS hx t).trans hb) ih
theorem ztr (h:te n S s) {b:Bool} {tr:Z Change}:te (n+1) S ⟨s.a9++[⟨false,tT,1000000,b⟩],tr⟩/\Li ⟨s.a9++[⟨false,tT,1000000,b⟩],tr⟩=s.Li+1:=by
 refine⟨⟨⟨by simp[h.Ez.len],λx hx=>?_,λi hi=>?_⟩,λx hx=>?_⟩,?_⟩
 . rcases bA.1 hx with hx|hx
   . have:=h.Ez.types x hx;split at this
     . rename_i hb;rw[if_pos hb];exact this.up (mF _)
     grind
   grind
 . by_cases hn:i<n
   . exact ztx rfl (h.Ez.fin i hn)
   . refine .zzU ?_ λu hu=>by cases hu
     rw[PS rfl]
     cases hb:s.bound (fq (i:Int))with
     |false=>rfl
     | true =>
       obtain⟨_,j,y,hj,hl,_⟩:=pM hb;have hj:(i:Int)=j:=hj;have:=h.Ez.len;omega
 . rcases bA.1 hx with hx|hx
   . exact h.home x hx
   grind
 . unfold Li
   grind
def ztq:te 0 S ⟨[],[]⟩:=⟨⟨rfl,λx hx=>(by cases hx),λi hi=>(by omega)⟩,λx hx=>(by cases hx)⟩
end
end ao
mutual
def G.app(θ:Int->G):G->G
 |.mk k n i h l=>if k=1 then θ i else .mk k n i h (G.apps θ l)
def G.apps(θ:Int->G):Z G->Z G
 | []=>[]
 |t::l=>G.app θ t::G.apps θ l
end
mutual
def G.VJ(j:Int):G->Bool
 |.mk k _ i _ l=>if k=1 then decide (i=j)else G.occs j l
def G.occs(j:Int):Z G->Bool
 | []=>false
 |t::l=>G.VJ j t||G.occs j l
end
theorem YY(j:Int)(l:Z G):G.occs j l=l.any (G.VJ j):=by
 induction l with
 |nil=>simp[G.occs]
 |cons t l ih=>simp[G.occs,ih]
def zwC(j:Int)(t:G):t.VJ j=if t.kind=1 then decide (t.id=j)else t.args.any (G.VJ j):=by
 cases t;simp only[G.VJ,G.fw,G.o5,G.fC,YY]
theorem zbM(out:Z Int)(t:G)(j:Int):j∈uW out t↔j∈out\/(t.kind=1/\t.id=j):=by
 unfold uW
 grind
theorem zet{l:Z G}(h:∀ t∈l,∀ (out:Z Int) (j:Int),j∈FJ t out↔j∈out\/t.VJ j=true):∀ (out:Z Int) (j:Int),j∈wE l out↔j∈out\/∃ t∈l,t.VJ j=true:=by
 induction l with
 |nil=>intro out j;simp[wE]
 | cons t l ih =>
   grind [wE,List.mem_cons_of_mem,List.mem_cons_self]
theorem znF(t:G):t.pE=true->∀ (out:Z Int) (j:Int),j∈FJ t out↔j∈out\/t.VJ j=true:=by
 induction t using G.ind with
 | h t ih =>
   intro hp out j;have hv:=Ig.1 (P8 hp);rw[ztc,zet (λu hu=>ih u hu (hv u hu)),zbM,zwC];by_cases hk:t.kind=1
   . have e:=zw hp hk;have ha:t.args=[]:=by rw[e];rfl
     grind
   grind
section
variable {s:Z cT}{pos:Int->Int}{S:Int->Prop}
theorem zi3{l:Z G}(h:∀ t∈l,∀ out:Z Int,(∀ j∈out,S j)->(t.xV s).DV (out.map pos)=(FJ t out).map pos/\∀ j∈FJ t out,S j) :
 ∀ out:Z Int,(∀ j∈out,S j)->G.BH (l.map (G.xV s)) (out.map pos)=(wE l out).map pos/\∀ j∈wE l out,S j:=by
 induction l with
 |nil=>intro out ho;exact⟨rfl,ho⟩
 | cons t l ih =>
   intro out ho;obtain⟨M,O⟩:=h t aD out ho;obtain⟨h3,h4⟩:=ih (λu hu=>h u (aF _ hu)) _ O
   grind [G.BH,wE]
def zkL (hinj:∀ i j,S i->S j->pos i=pos j->i=j) (C:∀ j,S j->wB s j=some (qU (pos j))) (hb:∀ j,S j->0<=pos j/\pos j<=1000000) (t:G) :
 t.valid=true->t.o6 2=false->t.o6 5=false->(∀ j,t.VJ j=true->S j) ->
  (∀ out:Z Int,(∀ j∈out,S j)->(t.xV s).DV (out.map pos)=(FJ t out).map pos/\∀ j∈FJ t out,S j)/\(t.xV s).valid=true/\(t.xV s).closed true=true/\(t.xV s).size=t.size:=by
 induction t using G.ind with
 | h t ih =>
   intro hv O h5 ho;obtain⟨k,n,i,h,l⟩:=t;obtain⟨hk,h4,hl⟩:=G.DX hv;rw[G.o6]at O h5;rw[ko,decide_eq_false_iff_not]at O h5;by_cases k1:k=1
   . subst k1;obtain rfl:=h4 (by decide);have Hc:S i:=ho i (by rw[G.VJ];simp);have e:(G.mk 1 n i h []).xV s=qU (pos i):=by rw[YH];show (wB s i).getD _=_;rw[C i Hc];rfl
     obtain⟨b1,b2⟩:=hb i Hc;rw[e];refine⟨λout oS=>⟨?_,λj hj=>?_⟩,by simp[qU,G.valid,b1,b2],by simp[qU,G.closed,G.yA],rfl⟩
     . rw[FJ,wE];unfold qU uW;rw[G.DV,G.BH];simp only[G.fw,G.o5,true_and];by_cases hi:i∈out
       . rw[if_neg (λh=>h (aI.2 ⟨i,hi,rfl⟩)),if_neg (λh=>h hi)]
       . rw[if_pos (λh=>by obtain⟨j,hj,hjp⟩:=aI.1 h;exact hi (hinj j i (oS j hj) Hc hjp ▸ hj)),if_pos hi,dz];rfl
     . rw[FJ,wE]at hj;unfold uW at hj;split at hj
       . rcases bA.1 hj with hj|hj
         . exact oS j hj
         . rw[ay]at hj;subst hj;exact Hc
       . exact oS j hj
   . have zhn:∀ u∈l,(∀ out:Z Int,(∀ j∈out,S j)->(u.xV s).DV (out.map pos)=(FJ u out).map pos/\∀ j∈FJ u out,S j)/\(u.xV s).valid=true/\(u.xV s).closed true=true/\(u.xV s).size=u.size:=λu hu=>by
      refine ih u hu (G.zx.1 hl u hu) ?_ ?_ λj hj=>ho j ?_
      . have:=O.2;rw[G.zP,oL]at this;simpa using this u hu
      . have:=h5.2;rw[G.zP,oL]at this;simpa using this u hu
      . rw[G.VJ,if_neg k1,YY,di];exact⟨u,hu,hj⟩
     have e:(G.mk k n i h l).xV s=.mk k n i h (l.map (G.xV s)):=by rw[YH];exact if_neg k1
     rw[e];refine⟨λout oS=>?_,?_,?_,?_⟩
     . rw[G.DV,if_neg (λh=>O.1 h.1),FJ];have:uW out (.mk k n i h l)=out:=by unfold uW;rw[if_neg (λh=>k1 h.1)]
       rw[this];exact zi3 (λu hu=>(zhn u hu).1) out oS
     . have fv:G.qw (l.map (G.xV s))=true:=G.zx.2 λu hu=>by
        obtain⟨w,hw,rfl⟩:=aI.1 hu;exact(zhn w hw).2.1
       unfold G.valid at hv ⊢;rw[aL,fv];rw[hl]at hv;exact hv
     . rw[G.closed,G.El,aQ];refine⟨by rcases hk with h|h|h|h|h<;>first|exact absurd h k1|exact absurd h O.1|exact absurd h h5.1|simp[h],aj.2 λu hu=>?_⟩;obtain⟨w,hw,rfl⟩:=aI.1 hu;exact(zhn w hw).2.2.1
     . rw[G.size_eq,G.size_eq (.mk k n i h l)];simp only[G.fC]
       congr 1
       have:∀ l:Z G,(∀ u∈l,(u.xV s).size=u.size)->G.bj (l.map (G.xV s))=G.bj l:=by
        intro l
        induction l with
        |nil=>intro _;rfl
        |cons a l tf=>intro hh;rw[aR,G.bj,G.bj,hh a aD,tf λu hu=>hh u (aF _ hu)]
       exact this l λu hu=>(zhn u hu).2.2.2
end
def zih{vs:Z Int}(hn:vs.Nodup)(hm:∀ j∈vs,j=0\/j=1):vs=[]\/vs=[0]\/vs=[1]\/vs=[0,1]\/vs=[1,0]:=by
 match vs,hn,hm with
 | [],_,_=>exact .inl rfl
 | [a],_,hm =>
   rcases hm a (by simp)with rfl|rfl
   . exact .inr (.inl rfl)
   . exact .inr (.inr (.inl rfl))
 | [a,b],hn,hm =>
   have LN:a≠b:=by simpa using hn
   rcases hm a (by simp)with rfl|rfl<;>rcases hm b (by simp)with rfl|rfl
   . exact absurd rfl LN
   . exact .inr (.inr (.inr (.inl rfl)))
   . exact .inr (.inr (.inr (.inr rfl)))
   . exact absurd rfl LN
 | a::b::c::l,hn,hm =>
   exfalso;have M:=hm a (by simp);have O:=hm b (by simp);have h3:=hm c (by simp);simp at hn;omega
theorem zku{x:G}(hv:x.valid=true)(hp:x.pE=true)(O:x.o6 2=false)(h5:x.o6 5=false)(ho:∀ j,x.VJ j=true->j=0\/j=1) :
 jh (yC x [0,1])=true/\(yC x [0,1]).type.closed true=true/\(yC x [0,1]).type.size=x.size/\(yC x [0,1]).count<=2:=by
 have zKa:tQ [x]=FJ x []:=by rw[<- XN hv,wE,wE]
 have ew:∀ j,j∈tQ [x]↔x.VJ j=true:=λj=>by rw[zKa,znF x hp];simp
 have eN:(tQ [x]).Nodup:=by rw[<- XN hv];exact Jn [x] kL
 have key:∀ (s:Z cT) (pos:Int->Int),(∀ i j,i∈tQ [x]->j∈tQ [x]->pos i=pos j->i=j)->(∀ j,j∈tQ [x]->wB s j=some (qU (pos j)))->(∀ j,j∈tQ [x]->0<=pos j/\pos j<=1000000)->vU (tQ [x]) [0,1] []=s->Nu ((tQ [x]).map pos) 0=true->s.length=(tQ [x]).length->s.length<=2 ->
  jh (yC x [0,1])=true/\(yC x [0,1]).type.closed true=true/\(yC x [0,1]).type.size=x.size/\(yC x [0,1]).count<=2:=by
  intro s pos k1 k2 k3 k4 k5 k6 k7;obtain⟨r1,r2,r3,r4⟩:=zkL (S:=λj=>j∈tQ [x]) k1 k2 k3 x hv O h5 (λj hj=>(ew j).2 hj);have r5:=(r1 [] (λj hj=>by cases hj)).1
  grind [yC,G.GI,jh,List.length_map]
 generalize fv:tQ [x]=vs at eN ew key;rcases zih eN (λj hj=>ho j ((ew j).1 hj))with rfl|rfl|rfl|rfl|rfl
 . exact key [] (λj=>j) (by simp) (by simp) (by simp) rfl rfl rfl (by decide)
 . exact key [⟨0,qU 0⟩] (λj=>j) (by simp) (by simp[wB]) (by simp) rfl rfl rfl (by decide)
 . exact key [⟨1,qU 0⟩] (λj=>j-1) (by simp) (by simp[wB]) (by simp) rfl rfl rfl (by decide)
 . exact key [⟨0,qU 0⟩,⟨1,qU 1⟩] (λj=>j) (by simp) (by simp[wB]) (by simp) rfl rfl rfl (by decide)
 . exact key [⟨1,qU 0⟩,⟨0,qU 1⟩] (λj=>1-j) (by simp) (by simp[wB]) (by simp) rfl rfl rfl (by decide)
theorem CJ{D:Z Decl}{Lv:Z G}{q:Int}(hq:q≠4)(hl:∀ l∈Lv,l.o6 q=false)(d:Nat)(t:Tp):(jb d t D Lv).2.o6 q=false:=by
 have aq:∀ (n:Z Nat) (l:Z G),(∀ x∈l,x.o6 q=false)->(uM n l).o6 q=false:=λn l hl=>by
  grind [uM,G.o6,G.zP,Bool.or_eq_false_iff,List.any_eq_false]
 exact Cs (P:=λt=>t.o6 q=false) hl (aq _ _ (λx hx=>by cases hx)) (λdd _ l _ hx=>aq _ _ hx) (λa b ha hb=>aq _ _ (λx hx=>by
  simp at hx;rcases hx with rfl|rfl
  . exact ha
  . exact hb)) d t
theorem zif{D:Z Decl}{Lv:Z G}{S:Int->Prop}(hl:∀ l∈Lv,∀ j,l.VJ j=true->S j)(d:Nat)(t:Tp):∀ j,(jb d t D Lv).2.VJ j=true->S j:=by
 have aq:∀ (n:Z Nat) (l:Z G),(∀ x∈l,∀ j,x.VJ j=true->S j)->∀ j,(uM n l).VJ j=true->S j:=λn l hl j hj=>by
  grind [uM,G.VJ,YY,List.any_eq_true]
 exact Cs (P:=λt=>∀ j,t.VJ j=true->S j) hl (aq _ _ (λx hx=>by cases hx)) (λdd _ l _ hx=>aq _ _ hx) (λa b ha hb=>aq _ _ (λx hx=>by
  simp at hx;rcases hx with rfl|rfl
  . exact ha
  . exact hb)) d t
theorem Yn{D:Z Decl}(hD:zk9 D)(d:Nat)(t:Tp):(jb d t D lg).2.closed false=true:=by
 have hv:∀ l∈lg,l.valid=true:=by decide
 have hk:∀ q:Int,q=1\/q=2\/q=5->∀ l∈lg,l.o6 q=false:=by
  rintro q (rfl|rfl|rfl)<;>decide
 grind [G.GI,DY,CJ]
theorem zi4:∀ (t:G),t.o6 2=false->∀ out,t.DV out=out:=by
 intro t
 induction t using G.ind with
 | h t ih =>
   intro h out;rw[G.JZ,ko,decide_eq_false_iff_not]at h;rw[G.YP,if_neg (λhh=>h.1 hh.1)]
   have key:∀ l:Z G,(∀ u∈l,∀ out,u.DV out=out)->G.BH l out=out:=by
    intro l
    induction l with
    |nil=>intro _;rfl
    |cons a l tf=>intro hh;rw[G.BH,hh a aD,tf λu hu=>hh u (aF _ hu)]
   grind [G.zP,List.any_eq_false]
theorem Y0{x:G}(hv:x.valid=true)(O:x.o6 2=false)(h5:x.o6 5=false):jh (mono x)=true:=by
 grind [jh,mono,zi4,Nu]
def zcm(e:Entry):Bool:=jh e.scheme&&e.scheme.type.closed true&&decide (e.scheme.type.size<=7)&&decide (e.scheme.count<=2)
theorem QN {D:Z Decl} (hD:zk9 D) (GP:Jx D) (t:Tp) (n:Nat):∀ e∈(GD D t n).2,zcm e=true:=by
 have hcv:∀ l∈lg,l.valid=true:=by decide
 have hk:∀ q:Int,q=1\/q=2\/q=5->∀ l∈lg,l.o6 q=false:=by
  rintro q (rfl|rfl|rfl)<;>decide
 have cm:∀ l∈lg,l.size<=1:=by decide
 have lz:rA 2=[fq 0,fq 1]:=rfl
 induction n with
 |zero=>intro e he;cases he
 | succ n ih =>
   intro e he;rw[GD]at he;unfold J7 at he;dsimp only at he;split at he
   . rcases bA.1 he with he|he
     . exact ih e he
     . rw[ay]at he;subst he;generalize (((GD D t n).1.next 8).1.next 4).1=u;have hw:∀ l∈rA 2,l.valid=true:=by rw[lz];decide
       have hp:∀ l∈rA 2,l.pE=true:=by rw[lz];decide
       have O:∀ l∈rA 2,l.o6 2=false:=by rw[lz];decide
       have h5:∀ l∈rA 2,l.o6 5=false:=by rw[lz];decide
       have b8:∀ l∈rA 2,l.size<=1:=by rw[lz];decide
       obtain⟨c1,c2,c3,c4⟩:=zku (DY hD hw 2 u) (MC hp 2 u) (CJ (by decide) O 2 u) (CJ (by decide) h5 2 u) (zif (S:=λj=>j=0\/j=1) (by
        rw[lz];intro l hl j hj;simp at hl
        rcases hl with rfl|rfl<;>simp[fq,G.VJ]at hj<;>omega) 2 u)
       have:=CG GP b8 2 u
       grind [zcm]
   . rcases bA.1 he with he|he
     . exact ih e he
     . rw[ay]at he;subst he;generalize (((GD D t n).1.next 8).1.next 4).1=u;have hxv:=DY hD hcv 2 u;have:=CG GP cm 2 u
       have eb:(jb 2 u D lg).2.closed true=true:=by
        grind [G.GI,CJ]
       grind [zcm,Y0,CJ,mono]
def Uh{D:Z Decl}(hD:zk9 D)(GP:Jx D)(t:Tp)(n:Nat):yB (GD D t n).2 (jb 2 (GD D t n).1 D lg).2=true:=by
 have hcv:∀ l∈lg,l.valid=true:=by decide
 have cm:∀ l∈lg,l.size<=1:=by decide
 have M:=QN hD GP t n;have O:=CG GP cm 2 (GD D t n).1;unfold yB;rw[DY hD hcv 2 (GD D t n).1,Yn hD 2 (GD D t n).1,aj.2 (λe he=>by have:=M e he;unfold zcm at this;simp only[aQ,decide_eq_true_eq]at this ⊢;exact⟨this.1.1,by omega⟩)];simp;omega
def KL{D:Z Decl}(hD:zk9 D)(GP:Jx D)(b5:Z Int):yB (iB b5 D).1 (iB b5 D).2.1=true :=
 Uh hD GP _ _
end Go.J
set_option maxRecDepth 100000
namespace Go.J
open bo (enc)
structure zpv(fr to:G):Prop extends Rep0 fr to where
 tv:to.valid=true
 t34:to.kind=3\/to.kind=4
def zrz:zpv (fD 0 0) Ik:=⟨⟨rfl,rfl,rfl,by decide,by decide,rfl,rfl,by decide,by decide⟩,by decide,.inr rfl⟩
def zry:zpv (fD 0 0) (fD 0 1):=⟨⟨rfl,rfl,rfl,by decide,by decide,rfl,rfl,by decide,by decide⟩,by decide,.inl rfl⟩
section
variable {fr to:G}(H:zpv fr to)
include H
theorem SH (t:G) (h:t.valid=true):(t.th fr to).valid=true:=by
 induction t using G.ind with
 | h t ih =>
   by_cases he:t=fr
   . rw[he,SQ H.toRep0];exact H.tv
   . rw[xz H.toRep0 he];obtain⟨k,n,i,hh,l⟩:=t;obtain⟨_,h4,hl⟩:=G.DX h
     have fv:G.qw (l.map (G.th · fr to))=true:=G.zx.2 λu hu=>by
      obtain⟨w,hw,rfl⟩:=aI.1 hu;exact ih w hw (G.zx.1 hl w hw)
     simp only[G.fw,G.jC,G.o5,G.sJ,G.fC]
     grind [G.valid,List.length_map]
theorem WG(b:Bool)(t:G)(h:t.closed b=true):(t.th fr to).closed b=true:=by
 induction t using G.ind with
 | h t ih =>
   by_cases he:t=fr
   . rw[he,SQ H.toRep0];cases to;have M:=H.ta;have O:=H.t34;simp only[G.fC,G.fw]at M O
     grind [G.closed,G.yA]
   . rw[xz H.toRep0 he];cases t;simp only[G.fw,G.jC,G.o5,G.sJ,G.fC];rw[G.closed,G.El,aQ]at h ⊢
     simp_all
def zma(t:G):(t.th fr to).o6 5=t.o6 5:=by
 induction t using G.ind with
 | h t ih =>
   by_cases he:t=fr
   . rw[he,SQ H.toRep0,G.JZ,G.JZ,H.ta,H.fa,H.fk];rcases H.t34 with e|e<;>rw[e]<;>rfl
   . rw[xz H.toRep0 he];cases t;simp only[G.fw,G.jC,G.o5,G.sJ,G.fC];rw[G.o6,G.o6,G.zP,G.zP,List.any_map]
     congr 1
     rw[dF,di,di];exact⟨λ⟨x,hx,h⟩=>⟨x,hx,by rw[<- ih x hx];exact h⟩,λ⟨x,hx,h⟩=>⟨x,hx,by show (x.th fr to).o6 5=true;rw[ih x hx];exact h⟩⟩
theorem zq1 (t:G):∀ out,(t.th fr to).DV out=t.DV out:=by
 induction t using G.ind with
 | h t ih =>
   intro out;by_cases he:t=fr
   . rw[he,SQ H.toRep0,G.YP,G.YP,H.ta,H.fa,if_neg (λh=>H.zLl h.1),if_neg (λh=>by have:=h.1;rw[H.fk]at this;cases this)]
   . rw[xz H.toRep0 he];obtain⟨k,n,i,hh,l⟩:=t;simp only[G.fw,G.jC,G.o5,G.sJ,G.fC]at ih ⊢;rw[G.DV,G.DV];generalize (if k=2/\i ∉ out then out++[i]else out)=o
     have key:∀ (m:Z G),(∀ x∈m,∀ out,(x.th fr to).DV out=x.DV out)->∀ o,G.BH (m.map (G.th · fr to)) o=G.BH m o:=by
      intro m
      induction m with
      |nil=>intro _ o;rfl
      |cons x m zNF=>intro hh o;rw[aR,G.BH,G.BH,hh x (aD ..),zNF λy hy=>hh y (aF _ hy)]
     grind
theorem zdD{c:Scheme}(h:jh c=true):jh ⟨c.count,c.type.th fr to⟩=true:=by
 simp_all [jh,zma,zq1,aQ,SH]
end
theorem Jp{b:Bool}(t:G)(ho:t.ok=true)(h:t.closed b=true):ic 0 t.size t:=by
 induction t using G.ind with
 | h t ih =>
   have hk:t.kind≠1:=by
    cases t;rw[G.closed,aQ]at h;have:=h.1;intro e
    simp_all
   refine ic.node hk ho (af _) λx hx=>?_
   have hc:x.closed b=true:=by
    cases t;rw[G.closed,G.El,aQ]at h
    simp_all
   have:=G.Au hx;exact(ih x hx (G.EJ ho hx) hc).le (by omega)
def Zv{D:Z Decl}(GP:Jx D)(t:Tp):ic 0 7 (jb 2 t D lg).2:=ao.zdB GP (λu hu=>by
 simp only[lg,aB,aS,or_false]at hu
 rcases hu with rfl|rfl<;>exact ao.zeB) 2 t (by decide)
def Form(d:Nat)(e:Xp):Prop:=e.wf=true/\e.depth<=d/\e.wide 100=true
theorem Form.mono{d d':Nat}{e:Xp}(h:Form d e)(hd:d<=d'):Form d' e:=⟨h.1,by have:=h.2.1;omega,h.2.2⟩
def FD{k p m:Int}{n:Z Nat}{t:G}{d:Nat}(h5:k≠5)(h4:k≠4)(h8:k≠8)(hd:1<=d):Form d (.mk k p n m [] [] t):=by
 refine⟨?_,?_,?_⟩
 . rw[Xp.zgd];simp[h5,h4,h8,Xp.w6,Am.w6]
 . rw[Xp.nE];simp[Xp.qC,Am.qC];exact hd
 . rw[Xp.JK];simp[Xp.sF,Am.sF]
def zow{k p m:Int}{n:Z Nat}{a:Xp}{t:G}{d:Nat}(h5:k≠5)(ha:Form d a):Form (d+1) (.mk k p n m [a] [] t):=by
 obtain⟨M,O,h3⟩:=ha;refine⟨?_,?_,?_⟩
 . rw[Xp.zgd];simp[h5,Xp.w6,Am.w6,M]
 . rw[Xp.nE];simp[Xp.qC,Am.qC];omega
 . rw[Xp.JK];simp[Xp.sF,Am.sF,h3]
def zov{k p m:Int}{n:Z Nat}{a b:Xp}{t:G}{d:Nat}(h4:k≠4)(h8:k≠8)(ha:Form d a)(hb:Form d b):Form (d+1) (.mk k p n m [a,b] [] t):=by
 obtain⟨M,O,h3⟩:=ha;obtain⟨g1,g2,g3⟩:=hb;refine⟨?_,?_,?_⟩
 . rw[Xp.zgd];simp[h4,h8,Xp.w6,Am.w6,M,g1]
 . rw[Xp.nE];simp[Xp.qC,Am.qC];omega
 . rw[Xp.JK];simp[Xp.sF,Am.sF,h3,g3]
def zj6{l:Z Am}{d:Nat}(h:∀ a∈l,Form d a.body):Am.w6 l=true/\Am.qC l<=d/\Am.sF 100 l=true:=by
 induction l with
 |nil=>exact⟨rfl,aW _,rfl⟩
 | cons a l ih =>
   obtain⟨M,O,h3⟩:=h a aD;obtain⟨i1,i2,i3⟩:=ih λx hx=>h x (aF _ hx)
   cases a;simp only[Am.Sg]at M O h3;refine⟨?_,?_,?_⟩
   . rw[Am.w6,M,i1];rfl
   . rw[Am.qC];omega
   . rw[Am.sF,h3,i3];rfl
def zj5{x:Xp}{l:Z Am}{d:Nat}(hx:Form d x)(hl:∀ a∈l,Form d a.body)(hn:l.length<=100):Form (d+1) (y8 x l):=by
 obtain⟨M,O,h3⟩:=hx;obtain⟨g1,g2,g3⟩:=zj6 hl;refine⟨?_,?_,?_⟩
 . rw[Xp.zgd];simp[y8,Xp.w6,M,g1]
 . rw[Xp.nE];simp[y8,Xp.qC];omega
 . rw[Xp.JK];simp[y8,Xp.sF,h3,g3,hn]
def Form.fit {d:Nat} {e:Xp} (h:Form d e) (hd:d<=1000):e.fit 1000:=by
 refine⟨by have:=h.2.1;omega,by have:=h.2.1;omega,?_⟩
 have key:∀ (d:Nat) (e:Xp),e.depth<=d->e.wide 100=true->e.wide 100000=true:=by
  intro d
  induction d with
  |zero=>intro e h;rw[Xp.nE]at h;omega
  | succ d ih =>
    intro e hd hw;obtain⟨w1,w2,w3,w4⟩:=Xp.CF hw
    have hk:∀ l:Z Xp,(∀ k∈l,k.wide 100000=true)->Xp.sF 100000 l=true:=by
     intro l
     induction l with
     |nil=>intro _;rfl
     |cons a l tf=>intro h;rw[Xp.sF,h a aD,tf λx hx=>h x (aF _ hx)];rfl
    have ha:∀ l:Z Am,(∀ k∈l,k.body.wide 100000=true)->Am.sF 100000 l=true:=by
     intro l
     induction l with
     |nil=>intro _;rfl
     | cons a l tf =>
       intro h;have M:=h a aD;cases a;simp only[Am.Sg]at M;rw[Am.sF,M,tf λx hx=>h x (aF _ hx)];rfl
    rw[Xp.JK,hk _ λk hk=>ih k (by have:=Xp.rQ hk;omega) (w3 k hk),ha _ λa ha=>ih a.body (by have:=Xp.FP ha;omega) (w4 a ha)];simp;omega
 exact key _ e (af _) h.2.2
def JI(e:Xp):Prop:=((dQ e).1.kind=1\/(dQ e).1.kind=2)/\(dQ e).2.all jk=true/\(e.kind=1\/e.kind=2\/e.kind=5)
def JI.shape{e:Xp}(h:JI e):jk e=true:=by
 obtain⟨M,O,h3⟩:=h;rw[JQ];by_cases k:e.kind=1\/e.kind=2
 . rw[if_pos k]
 . have k5:e.kind=5:=by omega
   rw[if_neg k,if_neg (by omega),if_neg (by omega),if_pos k5,O];simp[M]
def Gt{k p m:Int}{n:Z Nat}{t:G}(h:k=1\/k=2):JI (.mk k p n m [] [] t):=by
 have C:dQ (.mk k p n m [] [] t)=(.mk k p n m [] [] t,[]):=CK (λh=>by have:=(Xp.Fz.1 h).2;simp at this);unfold JI;rw[C];exact⟨h,rfl,by show k=1\/k=2\/k=5;omega⟩
def zjX{f a:Xp}(hf:JI f)(ha:jk a=true):JI (VO f a):=by
 have B2:(VO f a).isApp=true:=rfl;have e1:(VO f a).fn=f:=rfl;have e2:(VO f a).arg=a:=rfl;unfold JI;rw[CL B2,e1,e2];refine⟨hf.1,?_,.inr (.inr rfl)⟩;rw[List.all_append,hf.2.1];simp[ha]
def ziH{n:Z Nat}{b:Xp}(h:jk b=true):jk (VN n b)=true:=by
 have e1:(VN n b).fn=b:=rfl;rw[JQ,if_neg (by simp[VN]),if_pos (show (VN n b).kind=4 from rfl),e1,h];rfl
def zdY{x:Xp}{l:Z Am}(hx:x.kind=1)(h:∀ a∈l,jk a.body=true):jk (y8 x l)=true:=by
 have e1:(y8 x l).fn=x:=rfl;have e2:(y8 x l).cf=l:=rfl;rw[JQ,if_neg (by simp[y8]),if_neg (by simp[y8]),if_pos (show (y8 x l).kind=8 from rfl),e1,e2,aj.2 h];simp[hx,y8]
section
variable {D:Z Decl}
def QZ{d:Nat}{P:Xp->Prop}(ih:∀ (t:Tp) (N:Z (Z Nat)),P (gJ d t D N).2)(t:Tp)(N:Z (Z Nat))(cs:Z Ctor)(i:Nat):∀ a∈(kz d t D N cs i).2,P a.body:=by
 induction i with
 |zero=>intro a ha;rw[kz]at ha;cases ha
 | succ i Mp =>
   intro a ha;rw[kz]at ha;rcases bA.1 ha with ha|ha
   . exact Mp a ha
   . rw[ay]at ha;subst ha;exact ih _ _
def zc1{d:Nat}(ih:∀ (t:Tp) (N:Z (Z Nat)),jk (gJ d t D N).2=true)(t:Tp)(N:Z (Z Nat)){e:Xp}(he:JI e)(i:Nat):JI (mQ d t D N e i).2:=by
 induction i with
 |zero=>rw[mQ];exact he
 |succ i Mp=>rw[mQ];exact zjX Mp (ih _ _)
def zfI{d n:Nat}(ih:∀ (t:Tp) (N:Z (Z Nat)),Form n (gJ d t D N).2)(hn:1<=n)(t:Tp)(N:Z (Z Nat)){e:Xp}(he:Form n e)(i:Nat):Form (n+i) (mQ d t D N e i).2:=by
 induction i with
 |zero=>rw[mQ];exact he
 |succ i Mp=>rw[mQ];exact zov (by decide) (by decide) Mp ((ih _ _).mono (fE _ _))
def JX{P Q:Xp->Prop}(d:Nat)(hv:∀ n,Q (Ap n))(hc:∀ n,Q (Q8 n))(h0:∀ e,Q e->P e)(C:∀ d',d=d'+1->∀ t N e i,i<=2->Q e->P (mQ d' t D N e i).2)(t:Tp)(N:Z (Z Nat)):P (zo d t D N).2:=by
 rw[zo.eq_def];dsimp only
 have M:Q (if N≠[]then ((t.next N.length).1,Ap (mJ [] N (t.next N.length).2))else (t,Ap [120])).2:=by
  split<;>exact hv _
 generalize (if N≠[]then ((t.next N.length).1,Ap (mJ [] N (t.next N.length).2))else (t,Ap [120]))=p at M
 have O:Q (if D≠[]then (if (p.1.next 2).2=0 then ((((p.1.next 2).1.next D.length).1.next (mJ zt D ((p.1.next 2).1.next D.length).2).ctors.length).1,Q8 (mJ Jm (mJ zt D ((p.1.next 2).1.next D.length).2).ctors (((p.1.next 2).1.next D.length).1.next (mJ zt D ((p.1.next 2).1.next D.length).2).ctors.length).2).name)else ((p.1.next 2).1,p.2))else p).2:=by
  split
  . split
    . exact hc _
    . exact M
  . exact M
 generalize (if D≠[]then (if (p.1.next 2).2=0 then ((((p.1.next 2).1.next D.length).1.next (mJ zt D ((p.1.next 2).1.next D.length).2).ctors.length).1,Q8 (mJ Jm (mJ zt D ((p.1.next 2).1.next D.length).2).ctors (((p.1.next 2).1.next D.length).1.next (mJ zt D ((p.1.next 2).1.next D.length).2).ctors.length).2).name)else ((p.1.next 2).1,p.2))else p)=q at O
 cases d with
 |zero=>exact h0 _ O
 | succ d =>
   have a1:=Af q.1 3;have a2:=Cb q.1 (n:=3) (by omega);exact C d rfl _ _ _ _ (by omega) O
def zaS:∀ (d:Nat) (t:Tp) (N:Z (Z Nat)),jk (gJ d t D N).2=true:=by
 intro d
 induction d with
 | zero =>
   intro t N;rw[gJ];exact JX (Q:=JI) (P:=λe=>jk e=true) 0 (λ_=>Gt (.inl rfl)) (λ_=>Gt (.inr rfl)) (λ_ h=>h.shape) (λd' h=>by omega) _ _
 | succ d ih =>
   intro t N;rw[gJ];dsimp only;split
   . exact ziH (ih _ _)
   . split
     . exact zdY rfl (QZ (P:=λe=>jk e=true) ih _ _ _ _)
     . exact JX (Q:=JI) (P:=λe=>jk e=true) (d+1) (λ_=>Gt (.inl rfl)) (λ_=>Gt (.inr rfl)) (λ_ h=>h.shape) (λd' h t N e i _ he=>by cases h;exact(zc1 ih t N he i).shape) _ _
def SX (hD:MT D):∀ (d:Nat) (t:Tp) (N:Z (Z Nat)),Form (2*d+1) (gJ d t D N).2:=by
 intro d
 induction d with
 | zero =>
   intro t N;rw[gJ];exact JX (Q:=Form 1) (P:=Form 1) 0 (λ_=>FD (by decide) (by decide) (by decide) (af _)) (λ_=>FD (by decide) (by decide) (by decide) (af _)) (λ_ h=>h) (λd' h=>by omega) _ _
 | succ d ih =>
   intro t N;rw[gJ];dsimp only;split
   . exact(zow (by decide) (ih _ _)).mono (by omega)
   . split
     . rename_i cb;refine(zj5 (d:=2*d+1) (FD (by decide) (by decide) (by decide) (by omega)) (QZ (P:=Form (2*d+1)) ih _ _ _ _) ?_).mono (by omega);have M:=Af (t.next 8).1 D.length;have O:=Cb (t.next 8).1 (n:=(D.length:Int)) (by have:=bT.2 cb.2.1;omega);obtain⟨j,hj⟩:=bK M;rw[hj];have kx:j<D.length:=by omega
       have e:mJ zt D (j:Int)=D[j]:=by unfold mJ;rw[bP,ax kx];rfl
       rw[e]
       have hl:∀ (t:Tp) (cs:Z Ctor) (i:Nat),(kz d t D N cs i).2.length=i:=by
        intro t cs i
        induction i with
        |zero=>rw[kz];rfl
        |succ i ih=>rw[kz];simp[ih]
       rw[hl];exact(hD.2 _ (az kx)).2.1
     . exact JX (Q:=Form (2*d+1)) (P:=Form (2*(d+1)+1)) (d+1) (λ_=>FD (by decide) (by decide) (by decide) (by omega)) (λ_=>FD (by decide) (by decide) (by decide) (by omega)) (λ_ h=>h.mono (by omega)) (λd' h t N e i hi he=>by cases h;exact(zfI ih (by omega) t N he i).mono (by omega)) _ _
end
end Go.J
