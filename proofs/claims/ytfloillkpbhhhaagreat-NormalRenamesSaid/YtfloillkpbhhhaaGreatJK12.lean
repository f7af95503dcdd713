import Derived.Test.YtfloillkpbhhhaaGreatJK11
import Derived.Test.YtfloillkpbhhhaaGreatJK9
import Derived.Test.YtfloillkpbhhhaaGreatJK8
import Derived.Test.YtfloillkpbhhhaaGreatJK10
set_option linter.all false
noncomputable section
set_option maxRecDepth 100000
set_option maxHeartbeats 4000000
namespace Go.J
open bo (enc)
section
variable {args:Z V}{n b c d e ga gb BQ BP:Nat}{ke:n<=1000}{Ds:Z Decl}{sl cW:Z Slot}{tr xZ:Z Change}{t t':G}{l l':Z G}{x y z w r:V}{post:Z V}{C:HS}{N:MN}{s s':MS}{L L':Z G}{ds:Z V}
@[simp] def zGU {q:Bool}:(DB args N Ds s s' L L' ds (.bool q) b c d e).vl C=.bool q:=(rfl)
@[simp] def zGT {q:Bool} {es:Z (Z V)} {g:Bool}:(DB args N Ds s s' L L' ds (.tuple [.sl es g,.bool q]) b c d e).vl C=.tuple [.sl es g,.bool q]:=(rfl)
@[simp] def zzO (hn:post.length=n):(DB args ⟨n,ke⟩ Ds ⟨none,sl,tr⟩ ⟨none,cW,xZ⟩ [] [] (x::y::z::w::post) r b c d e).hp C={ H:=C.H.set b (.arr (n+4) 0 [.sl (Ds.map aT) false::.a8::.a8::.a8::post] true false false),n:=C.n,log:=b::C.log }:=by
  show ({ H:=C.H.set b (mV 0 (x::y::z::w::post) (news C.n 1 (λi=>([b]:Z Nat).getD i 0)) (0,.arr (n+4) 0 [Sk ⟨n,ke⟩ Ds ⟨none,cW,xZ⟩ []] true false false)),n:=C.n+0,log:=_ }:HS)=_;rw[EN (n:=⟨n,ke⟩) hn];simp[oO,oV,Lq,news]
  try rfl
@[simp] def zzN (hn:post.length=n):(DB args ⟨n,ke⟩ Ds ⟨none,sl,tr⟩ ⟨none,cW,xZ⟩ [] (t'::l') (x::y::z::w::post) r b c d e).hp C={ H:=(C.H.set C.n (.arr 5 l'.length (aA t'::l'.map aA) false false true)).set b (.arr (n+4) 0 [.sl (Ds.map aT) false::.a8::.a8::.own C.n l'.length 0 (l'.length+1) none::post] true false false),n:=C.n+1,log:=b::C.n::C.log }:=by
  show ({ H:=(C.H.set (C.n+0) ((oO 5 ((t'::l').map aA)).cw (news C.n 1 (λi=>([b]:Z Nat).getD i 0)))).set b (mV 0 (x::y::z::w::post) (news C.n 1 (λi=>([b]:Z Nat).getD i 0)) (0,.arr (n+4) 0 [Sk ⟨n,ke⟩ Ds ⟨none,cW,xZ⟩ (t'::l')] true false false)),n:=C.n+1,log:=_ }:HS)=_;rw[Dx (sz:=5) (es:=(t'::l').map aA) (Bf (t'::l')),EN (n:=⟨n,ke⟩) hn];simp[oO,oV,Lq,news]
  try rfl
@[simp] def zzM (hn:post.length=n):(DB args ⟨n,ke⟩ Ds ⟨none,sl,tr⟩ ⟨some (BQ,BP),cW,xZ⟩ [] [] (x::y::z::w::post) r b c d e).hp C={ H:=((C.H.set (C.n+1) (.arr 10 BP (xZ.map bW) false false true)).set C.n (.arr 8 BQ (cW.map dK) false false true)).set b (.arr (n+4) 0 [.sl (Ds.map aT) false::.own C.n BQ 0 cW.length none::.own (C.n+1) BP 0 xZ.length none::.a8::post] true false false),n:=C.n+2,log:=b::C.n::(C.n+1)::C.log }:=by
  show ({ H:=((C.H.set (C.n+1) ((mT xZ ⟨BQ,BP,0,aZ _⟩).cw (news C.n 1 (λi=>([b]:Z Nat).getD i 0)))).set (C.n+0) ((mS cW ⟨BQ,BP,0,aZ _⟩).cw (news C.n 1 (λi=>([b]:Z Nat).getD i 0)))).set b (mV 0 (x::y::z::w::post) (news C.n 1 (λi=>([b]:Z Nat).getD i 0)) (0,.arr (n+4) 0 [Sk ⟨n,ke⟩ Ds ⟨some (BQ,BP),cW,xZ⟩ []] true false false)),n:=C.n+2,log:=_ }:HS)=_;rw[sG,sF,EN (n:=⟨n,ke⟩) hn];simp[oO,oV,Lq,news]
  try rfl
@[simp] def zzL (hn:post.length=n):(DB args ⟨n,ke⟩ Ds ⟨none,sl,tr⟩ ⟨some (BQ,BP),cW,xZ⟩ [] (t'::l') (x::y::z::w::post) r b c d e).hp C={ H:=(((C.H.set (C.n+2) (.arr 5 l'.length (aA t'::l'.map aA) false false true)).set (C.n+1) (.arr 10 BP (xZ.map bW) false false true)).set C.n (.arr 8 BQ (cW.map dK) false false true)).set b (.arr (n+4) 0 [.sl (Ds.map aT) false::.own C.n BQ 0 cW.length none::.own (C.n+1) BP 0 xZ.length none::.own (C.n+2) l'.length 0 (l'.length+1) none::post] true false false),n:=C.n+3,log:=b::C.n::(C.n+1)::(C.n+2)::C.log }:=by
  show ({ H:=(((C.H.set (C.n+2) ((oO 5 ((t'::l').map aA)).cw (news C.n 1 (λi=>([b]:Z Nat).getD i 0)))).set (C.n+1) ((mT xZ ⟨BQ,BP,0,aZ _⟩).cw (news C.n 1 (λi=>([b]:Z Nat).getD i 0)))).set (C.n+0) ((mS cW ⟨BQ,BP,0,aZ _⟩).cw (news C.n 1 (λi=>([b]:Z Nat).getD i 0)))).set b (mV 0 (x::y::z::w::post) (news C.n 1 (λi=>([b]:Z Nat).getD i 0)) (0,.arr (n+4) 0 [Sk ⟨n,ke⟩ Ds ⟨some (BQ,BP),cW,xZ⟩ (t'::l')] true false false)),n:=C.n+3,log:=_ }:HS)=_;rw[sG,sF,Dx (sz:=5) (es:=(t'::l').map aA) (Bf (t'::l')),EN (n:=⟨n,ke⟩) hn];simp[oO,oV,Lq,news]
  try rfl
@[simp] def zzK (hn:post.length=n):(DB args ⟨n,ke⟩ Ds ⟨some (ga,gb),sl,tr⟩ ⟨some (BQ,BP),cW,xZ⟩ [] [] (x::y::z::w::post) r b c d e).hp C={ H:=((C.H.set d (.arr 10 BP (xZ.map bW) false false true)).set c (.arr 8 BQ (cW.map dK) false false true)).set b (.arr (n+4) 0 [.sl (Ds.map aT) false::.own c BQ 0 cW.length none::.own d BP 0 xZ.length none::.a8::post] true false false),n:=C.n,log:=b::c::d::C.log }:=by
  show ({ H:=((C.H.set d ((mT xZ ⟨BQ,BP,0,aZ _⟩).cw (news C.n 3 (λi=>([b,c,d]:Z Nat).getD i 0)))).set c ((mS cW ⟨BQ,BP,0,aZ _⟩).cw (news C.n 3 (λi=>([b,c,d]:Z Nat).getD i 0)))).set b (mV 0 (x::y::z::w::post) (news C.n 3 (λi=>([b,c,d]:Z Nat).getD i 0)) (0,.arr (n+4) 0 [Sk ⟨n,ke⟩ Ds ⟨some (BQ,BP),cW,xZ⟩ []] true false false)),n:=C.n+0,log:=_ }:HS)=_;rw[sG,sF,EN (n:=⟨n,ke⟩) hn];simp[oO,oV,Lq,news]
  try rfl
@[simp] def zzJ (hn:post.length=n):(DB args ⟨n,ke⟩ Ds ⟨some (ga,gb),sl,tr⟩ ⟨some (BQ,BP),cW,xZ⟩ [] (t'::l') (x::y::z::w::post) r b c d e).hp C={ H:=(((C.H.set C.n (.arr 5 l'.length (aA t'::l'.map aA) false false true)).set d (.arr 10 BP (xZ.map bW) false false true)).set c (.arr 8 BQ (cW.map dK) false false true)).set b (.arr (n+4) 0 [.sl (Ds.map aT) false::.own c BQ 0 cW.length none::.own d BP 0 xZ.length none::.own C.n l'.length 0 (l'.length+1) none::post] true false false),n:=C.n+1,log:=b::c::d::C.n::C.log }:=by
  show ({ H:=(((C.H.set (C.n+0) ((oO 5 ((t'::l').map aA)).cw (news C.n 3 (λi=>([b,c,d]:Z Nat).getD i 0)))).set d ((mT xZ ⟨BQ,BP,0,aZ _⟩).cw (news C.n 3 (λi=>([b,c,d]:Z Nat).getD i 0)))).set c ((mS cW ⟨BQ,BP,0,aZ _⟩).cw (news C.n 3 (λi=>([b,c,d]:Z Nat).getD i 0)))).set b (mV 0 (x::y::z::w::post) (news C.n 3 (λi=>([b,c,d]:Z Nat).getD i 0)) (0,.arr (n+4) 0 [Sk ⟨n,ke⟩ Ds ⟨some (BQ,BP),cW,xZ⟩ (t'::l')] true false false)),n:=C.n+1,log:=_ }:HS)=_;rw[sG,sF,Dx (sz:=5) (es:=(t'::l').map aA) (Bf (t'::l')),EN (n:=⟨n,ke⟩) hn];simp[oO,oV,Lq,news]
  try rfl
@[simp] def zzI (hn:post.length=n):(DB args ⟨n,ke⟩ Ds ⟨some (ga,gb),sl,tr⟩ ⟨some (BQ,BP),cW,xZ⟩ (t::l) (t'::l') (x::y::z::w::post) r b c d e).hp C={ H:=(((C.H.set e (.arr 5 l'.length (aA t'::l'.map aA) false false true)).set d (.arr 10 BP (xZ.map bW) false false true)).set c (.arr 8 BQ (cW.map dK) false false true)).set b (.arr (n+4) 0 [.sl (Ds.map aT) false::.own c BQ 0 cW.length none::.own d BP 0 xZ.length none::.own e l'.length 0 (l'.length+1) none::post] true false false),n:=C.n,log:=b::c::d::e::C.log }:=by
  show ({ H:=(((C.H.set e ((oO 5 ((t'::l').map aA)).cw (news C.n 4 (λi=>([b,c,d,e]:Z Nat).getD i 0)))).set d ((mT xZ ⟨BQ,BP,0,aZ _⟩).cw (news C.n 4 (λi=>([b,c,d,e]:Z Nat).getD i 0)))).set c ((mS cW ⟨BQ,BP,0,aZ _⟩).cw (news C.n 4 (λi=>([b,c,d,e]:Z Nat).getD i 0)))).set b (mV 0 (x::y::z::w::post) (news C.n 4 (λi=>([b,c,d,e]:Z Nat).getD i 0)) (0,.arr (n+4) 0 [Sk ⟨n,ke⟩ Ds ⟨some (BQ,BP),cW,xZ⟩ (t'::l')] true false false)),n:=C.n+0,log:=_ }:HS)=_;rw[sG,sF,Dx (sz:=5) (es:=(t'::l').map aA) (Bf (t'::l')),EN (n:=⟨n,ke⟩) hn];simp[oO,oV,Lq,news]
  try rfl
end
end Go.J
set_option maxHeartbeats 1000000
namespace Go.J
open bo (enc)
variable {f:FuncId}{C:HS}{B a b c d e g i j k:Nat}{I:Nat->Value}{F:Nat->Z Nat}{T:PT V}{P:Program}{sc:SC}{r t:V}{Q:V×HS->Prop}{OL:Z (Nat×Obj)}{N l cb:Z (Z Nat)}{m:Z (Z V)}{tr:Z Change}{D:Z Decl}{n:Z Nat}{sl:Z Slot}{ds vs eb:Z V}{cI:Z V->HS->Y oF}
def ZF(cI:Z V->HS->Y oF):Spec:=λvs C=>ob (cI vs C) λD=>gd D.v0.pure (some (D.v0,C))
theorem Uq    {fn:Func}   {D:oF} (hρ:J.Good I) (hP:P.follows .mixedOrders=true) (hN:vX P) (hf:P.funcs[f]?=some fn) (hb:fn.body.bind aV=some sc) (he:jH fn.ntmps D.eb 0 .leaf=some T)
 (hg:D.Good) (ho:D.cJ=D.OL) (hr:D.v0.pure=true) (h:∀ ρ',J.Good ρ'->∃ E,E.P=P/\bK ρ' E/\Wp ρ' E D.k fn.ntmps sc T { H:=dP D.OL,n:=D.k,log:=[] } (Leaves P fn (aJ D.k D.v0 D.cJ)))   (b4:D.Fits vs C) :
 aS I P f vs C D.v0 C:=by
 have key:=ZC hρ hP hN hf hb he hg h b4;rw[show D.vl C=D.v0 from V.jq (V.dU hr)]at key;have cG:∀ i,cx D.OL i=true->i<D.k:=by intro i hi;let⟨q,hq,S3⟩:=dN.1 hi;rw[beq_true]at S3;exact dh.1 (by rw[<- hg.ol];exact aF.2 ⟨q,hq,S3⟩)
 have hx:∀ id,(D.hp C).H.get id=C.H.get id:=by
  intro id;refine Ey (λp hp=>?_) id;obtain⟨p0,qe,rfl⟩:=aF.1 hp;have CH:p0∈D.OL:=by rw[<- ho];exact qe
  have h0:p0.1<D.k:=cG _ (dN.2 ⟨p0,CH,beq_true.2 rfl⟩);show C.H.get (news C.n D.k D.π p0.1)=some (mV D.s D.ds (news C.n D.k D.π) p0);rw[show news C.n D.k D.π p0.1=D.π p0.1 from if_pos h0,b4.obj p0 CH];refine congrArg some ?_;have hc:=Obj.P7 (A:=cx D.OL) (π:=news C.n D.k D.π) (σ:=D.π) (λi hi=>if_pos (cG i hi)) (hg.RK p0 CH);unfold mV;split;rename_i e;have e2:p0.2=Obj.arr D.ds.length 0 [D.cs] true false false:=by have eV:(D.OL.map Prod.fst).Nodup:=(by rw[hg.ol];exact gQ);have e3:=wz eV CH;have e4:=wz eV hg.lj;grind
  rw[e2]at hc ⊢;have C0:D.cs.map (V.jr (news C.n D.k D.π))=D.cs.map (V.jr D.π):=by simp_all
  show Obj.arr _ _ [mix D.π D.cs D.ds] _ _ _=Obj.arr _ _ [mix _ D.cs D.ds] _ _ _;rw[Qh C0];grind
 grind [aS.quiet,id]
def Valid.ZF{f:Nat}(hf:vM P f)(h:∀ vs C D,cI vs C=some D->D.v0.pure=true->aS I P f vs C D.v0 C):Valid I P f (ZF cI) where
 fn:=hf
 ok:=by intro vs C v a9 hq;simp only[J.ZF,aC,bI]at hq;let⟨D,hD,hp,hq⟩:=hq;cases hq;exact h _ _ _ hD hp
 kept:=by
  intro vs C q hq;simp only[J.ZF,aC,bI]at hq;let⟨D,hD,hp,hq⟩:=hq;cases hq;exact .refl _
@[simp] def zKI    :BO (J.ZF cI vs C) Q=BO (cI vs C) λD=>D.v0.pure=true/\Q (D.v0,C):=by
  show ok (J.ZF cI vs C) Q=ok (cI vs C) λD=>D.v0.pure=true/\Q (D.v0,C);simp only[J.ZF,iM,vO,dL]
structure ud where
 n:MN
 D:List Decl
 ga:Nat
 gb:Nat
 sl:List Slot
 tr:List Change
 t:G
 l:List G
def H4(c d e:Nat)(R:ud):Z V:=.sl (R.D.map aT) false::.own c R.ga 0 R.sl.length none::.own d R.gb 0 R.tr.length none::.own e R.l.length 0 (R.l.length+1) none::jT 4 R.n.n
def Dp(R:ud):Z (Nat×Obj):=[(0,jw (.ptr 1 0 0)),(1,.arr (R.n.n+4) 0 [H4 2 3 4 R] true false false),(2,mS R.sl ⟨R.ga,R.gb,0,aZ _⟩),(3,mT R.tr ⟨R.ga,R.gb,0,aZ _⟩),(4,.arr 5 R.l.length (aA R.t::R.l.map aA) false false true)]
section
variable {n ga gb m:Nat}{hn:n<=1000}{t:G}{l:Z G}{R:ud}
@[simp] def zKR:Dp ⟨⟨n,hn⟩,D,ga,gb,sl,tr,t,l⟩=[(0,jw (.ptr 1 0 0)),(1,.arr (n+4) 0 [.sl (D.map aT) false::.own 2 ga 0 sl.length none::.own 3 gb 0 tr.length none::.own 4 l.length 0 (l.length+1) none::jT 4 n] true false false),(2,.arr 8 ga (sl.map dK) false false true),(3,.arr 10 gb (tr.map bW) false false true),(4,.arr 5 l.length (aA t::l.map aA) false false true)]:=(rfl)
theorem zhE:(H4 c d e R).length=R.n.n+4:=by simp[H4]
theorem znJ:wK 0 (H4 c d e R)=true:=by simp[H4,wK,NC,RY]
theorem zhD:∀ p∈Dp R,p.2.in (cx (Dp R))=true/\p.2.fz=false:=by
 intro p hp;have hd:∀ i,i<5->cx (Dp R) i=true:=λi hi=>by rcases(show i=0\/i=1\/i=2\/i=3\/i=4 by omega)with rfl|rfl|rfl|rfl|rfl<;>rfl
 simp only[Dp,ay,aU,or_false]at hp;rcases hp with rfl|rfl|rfl|rfl|rfl;exact⟨rfl,rfl⟩;refine⟨?_,rfl⟩;simp[H4,cx,Dp];exact⟨RB,rfl⟩;exact⟨RA,rfl⟩;exact⟨Bf (R.t::R.l),rfl⟩
theorem zhC:∀ p∈Dp R,p.1≠1->p.2.ns=true:=by
 intro p hp cg;simp only[Dp,ay,aU,or_false]at hp;rcases hp with rfl|rfl|rfl|rfl|rfl;rfl;omega;exact Vn;exact Vm;exact F5 (R.t::R.l)
end
def L1(eb:Z V)(R:ud)(r:V)(ds:Z V)(a b c d e:Nat):oF where
 k:=5
 k':=5
 π:=λi=>[a,b,c,d,e].getD i 0
 OL:=Dp R
 cJ:=Dp R
 eb:=eb
 v0:=r
 s:=1
 cs:=H4 2 3 4 R
 tz:=H4 2 3 4 R
 ds:=ds
def zcb{R:ud}(GW:ds.length=R.n.n+4)(hv:∀ v∈eb,v.sS (cx (Dp R))=true)(hn:∀ v∈eb,v.ns=true)(hr:(r.sS λ_=>false)=true)(hrn:r.ns=true):(L1 eb R r ds a b c d e).Good:=by
 refine⟨rfl,rfl,af _,λp hp=>(zhD p hp).1,zhD,V.Bq (λ_ h=>by cases h) hr,hv,?_,?_,zhE.trans GW.symm,zhE.trans GW.symm,znJ,znJ,λ_ h=>h,zhC,zhC,hrn,hn⟩;show (1,Obj.arr ds.length 0 [H4 2 3 4 R] true false false)∈Dp R;rw[GW];exact aD _ (aB ..);show (1,Obj.arr ds.length 0 [H4 2 3 4 R] true false false)∈Dp R;rw[GW];exact aD _ (aB ..)
structure zC1 where
 R:ud
 ds:List V
 a:Nat
 b:Nat
 c:Nat
 d:Nat
 e:Nat
def zHT(a b e:Nat)(C:HS)(q:V×V×V×V×{l:Z V // l.length<=1000})(D:Z Decl)(s:Nat×Nat×MS)(l:Z G):Y zC1:=match s.2.2.z,l with
 |some (ga,gb),t::l=>gd (et (cj [a,b,s.1,s.2.1,e]) ([a,b,s.1,s.2.1,e].all λx=>Nat.blt x C.n)) (some ⟨⟨⟨q.2.2.2.2.1.length,q.2.2.2.2.2⟩,D,ga,gb,s.2.2.sl,s.2.2.tr,t,l⟩,q.1::q.2.1::q.2.2.1::q.2.2.2.1::q.2.2.2.2.1,a,b,s.1,s.2.1,e⟩)
 |_,_=>none
@[simp] def zNU {ga gb:Nat}  {q:V×V×V×V×{l:Z V // l.length<=1000}}    {t:G} {l:Z G}:zHT a b e C q D (c,d,⟨some (ga,gb),sl,tr⟩) (t::l)=gd (et (cj [a,b,c,d,e]) ([a,b,c,d,e].all λx=>Nat.blt x C.n)) (some ⟨⟨⟨q.2.2.2.2.1.length,q.2.2.2.2.2⟩,D,ga,gb,sl,tr,t,l⟩,q.1::q.2.1::q.2.2.1::q.2.2.2.1::q.2.2.2.2.1,a,b,c,d,e⟩):=(rfl)
def XS(a:Nat)(C:HS):Y zC1:=ob (C.H.get a) λoa=>ob (ee oa) λva=>ob (Jt 0 va) λb=>ob (C.H.get b) λo=>ob (Ss o) λq=>ob (bo.dec q.1:Y (Z Decl)) λD=>ob (Is C q.2.1 q.2.2.1) λs=>ob (rowOf 5 C q.2.2.2.1) λes=>ob (eZ es:Y (Z G)) λl=>zHT a b (rT q.2.2.2.1) C q D s l
@[simp] def zNT  :XS a C=ob (C.H.get a) λoa=>ob (ee oa) λva=>ob (Jt 0 va) λb=>ob (C.H.get b) λo=>ob (Ss o) λq=>ob (bo.dec q.1:Y (Z Decl)) λD=>ob (Is C q.2.1 q.2.2.1) λs=>ob (rowOf 5 C q.2.2.2.1) λes=>ob (eZ es:Y (Z G)) λl=>zHT a b (rT q.2.2.2.1) C q D s l:=(rfl)
structure zC1.In(X:zC1)(C:HS):Prop where
 len:X.ds.length=X.R.n.n+4
 cell:∀ d∈X.ds,d.mY=true
 nd:cj [X.a,X.b,X.c,X.d,X.e]=true
 lt:[X.a,X.b,X.c,X.d,X.e].all (λx=>Nat.blt x C.n)=true
 obj:∀ p∈Dp X.R,C.H.get ([X.a,X.b,X.c,X.d,X.e].getD p.1 0)=some (mV 1 X.ds (λi=>[X.a,X.b,X.c,X.d,X.e].getD i 0) p)
theorem zhB   {X:zC1} (h:XS a C=some X):X.a=a/\X.In C:=by
 unfold XS at h;simp only[aC]at h;let⟨oa,J0,va,OK,b,hb,o,ho,q,hq,D,hD,s,cp,es,fY,l,hl,h⟩:=h;have e1:=uJ OK;have e2:=Kr hb;let⟨e3,e7⟩:=zdL hq;have e8:=ZI cp;have e9:=C9 fY;have BY:=bo.bB _ _ hD;have e11:=iZ hl;let⟨c,d,z,sl,tr⟩:=s;let⟨x,y,w,v,post,du⟩:=q;simp only at e3 e7 e8 e9 BY e11 h;subst e1 e2 e3 BY e11;unfold zHT at h;simp only at h;split at h;rename_i ga gb t l;simp only[bI,dz]at h;let⟨⟨M,O⟩,h⟩:=h;cases h;rcases e8 with⟨_,_,e⟩|⟨BQ,BP,e8,rfl,rfl,g4,g5⟩;cases e;cases e8;rcases e9 with⟨rfl,e9⟩|⟨id,rfl,e9,g6,_,g7⟩;cases e9;refine⟨rfl,⟨rfl,e7,M,O,λp hp=>?_⟩⟩;simp only[Dp,ay,aU,or_false]at hp;rcases hp with rfl|rfl|rfl|rfl|rfl;exact J0;show C.H.get b=some (if 1=1 then _ else _);rw[if_pos rfl,ho];show some _=some (Obj.arr (post.length+4) 0 [.sl (D.map aT) false::.own c ga 0 sl.length none::.own d gb 0 tr.length none::.own id l.length 0 (l.length+1) none::mix _ (jT 4 post.length) post] true false false);simp[I8,oV];show C.H.get c=_;rw[g4];exact congrArg some (sG (sl:=sl) (g:=⟨ga,gb,0,aZ _⟩)).symm;show C.H.get d=_;rw[g5];exact congrArg some (sF (tr:=tr) (g:=⟨ga,gb,0,aZ _⟩)).symm;show C.H.get id=_;rw[show C.H.get id=some (oO 5 ((t::l).map aA)) from g6];have e:oO 5 ((t::l).map aA)=.arr 5 l.length (aA t::l.map aA) false false true:=by simp[oO]
 show some (oO 5 ((t::l).map aA))=some (Obj.cw (λi=>[a,b,c,d,id].getD i 0) (.arr 5 l.length (aA t::l.map aA) false false true));simp_all;cases h
def zcc{X:zC1}(hX:X.In C)(ha:eb.map (V.cw λi=>[X.a,X.b,X.c,X.d,X.e].getD i 0)=vs):(L1 eb X.R r X.ds X.a X.b X.c X.d X.e).Fits vs C:=by
 refine oF.KC [X.a,X.b,X.c,X.d,X.e] rfl rfl hX.nd hX.lt ha hX.obj rfl ?_ hX.cell;show X.ds.length<=1000000;have:=X.R.n.h;rw[hX.len];omega
def zjJ(F:ud->V->Y V)(vs:Z V)(C:HS):Y oF:=match vs with
 | [t,.ptr a 0 0]=>ob (XS a C) λX=>ob (F X.R t) λr=>gd (et (bX [t]) (et (IU [t]) (et (r.sS λ_=>false) r.ns))) (some (L1 [t,.ptr 0 0 0] X.R r X.ds X.a X.b X.c X.d X.e))
 |_=>none
def ZJ(g:Nat)(F:ud->Y V)(vs:Z V)(C:HS):Y oF:=match vs with
 | [.own e ge 0 m none,.func g' [.ptr a 0 0]]=>ob (XS a C) λX=>ob (F X.R) λr=>gd (et (Nat.beq g g') (et (Nat.beq e X.e) (et (Nat.beq ge X.R.l.length) (et (Nat.beq m (X.R.l.length+1)) (et (r.sS λ_=>false) r.ns))))) (some (L1 [.own 4 X.R.l.length 0 (X.R.l.length+1) none,.func g [.ptr 0 0 0]] X.R r X.ds X.a X.b X.c X.d X.e))
 |_=>none
section
variable {F:ud->V->Y V}{F2:ud->Y V}{D:oF}
@[simp] def zKT  :zjJ F [t,.ptr a 0 0] C=ob (XS a C) λX=>ob (F X.R t) λr=>gd (et (bX [t]) (et (IU [t]) (et (r.sS λ_=>false) r.ns))) (some (L1 [t,.ptr 0 0 0] X.R r X.ds X.a X.b X.c X.d X.e)):=(rfl)
@[simp] def zKS {g' ge m:Nat}:ZJ g F2 [.own e ge 0 m none,.func g' [.ptr a 0 0]] C=ob (XS a C) λX=>ob (F2 X.R) λr=>gd (et (Nat.beq g g') (et (Nat.beq e X.e) (et (Nat.beq ge X.R.l.length) (et (Nat.beq m (X.R.l.length+1)) (et (r.sS λ_=>false) r.ns))))) (some (L1 [.own 4 X.R.l.length 0 (X.R.l.length+1) none,.func g [.ptr 0 0 0]] X.R r X.ds X.a X.b X.c X.d X.e)):=(rfl)
@[simp] def zKU  {R:ud}  :(L1 eb R r ds a b c d e).v0=r:=(rfl)
theorem znI(h:zjJ F vs C=some D):∃ t R r ds a b c d e,F R t=some r/\D=L1 [t,.ptr 0 0 0] R r ds a b c d e/\D.Good/\D.Fits vs C:=by
 unfold zjJ at h;split at h;rename_i t a;simp only[aC,bI,dz]at h;let⟨X,hX,r,hr,⟨M,O,h3,h4⟩,h⟩:=h;cases h;obtain⟨rfl,hI⟩:=zhB hX;refine⟨t,X.R,r,_,_,_,_,_,_,hr,rfl,zcb hI.len ?_ ?_ h3 h4,zcc hI ?_⟩;intro v hv;rcases ay.1 hv with rfl|hv;exact V.dU (jo M _ (aB ..));rw[ag.1 hv];rfl;simp_all;show [V.cw _ t,_]=_;rw[V.jq (V.dU (jo M _ (aB ..)))];rfl;cases h
theorem zca(h:ZJ g F2 vs C=some D):∃ R r ds a b c d e,F2 R=some r/\D=L1 [.own 4 R.l.length 0 (R.l.length+1) none,.func g [.ptr 0 0 0]] R r ds a b c d e/\D.Good/\D.Fits vs C:=by
 unfold ZJ at h;split at h;rename_i e ge m g' a;simp only[aC,bI,dz,beq_true]at h;obtain⟨X,hX,r,hr,⟨rfl,rfl,rfl,rfl,h3,h4⟩,h⟩:=h;cases h;obtain⟨rfl,hI⟩:=zhB hX;refine⟨X.R,r,_,_,_,_,_,_,hr,rfl,zcb hI.len ?_ ?_ h3 h4,zcc hI rfl⟩;intro v hv;rcases ay.1 hv with rfl|hv;rfl;rw[ag.1 hv];rfl;intro v hv;rcases ay.1 hv with rfl|hv;rfl;rw[ag.1 hv];rfl;cases h
end
theorem wH.auto{v0 a b:V}(ea:ok (kV C a) λa'=>V.tuple [ig a',b]=v0/\(v0.sS λ_=>false)=true:=by simp[kV])
 (hH:∀ p∈OL,p.2.in (cx OL)=true/\(a.cells.any (qu (J.auto k [] OL .leaf C.H p.1)))=false/\C.H.get (J.auto k [] OL .leaf C.H p.1)=some (p.2.cw (J.auto k [] OL .leaf C.H)):=by simp[qu])
 (hi:cj (OL.map λp=>J.auto k [] OL .leaf C.H p.1)=true:=by first|rfl|(simp;done)) (hk:(List.range k).all (λi=>Nat.beq (J.auto k [] OL .leaf C.H i) i&&cx OL i)=true:=by first|rfl|(simp;done)|(simp<;>(intro x W;first|omega|exact⟨.inl W,by omega⟩))):wH k v0 OL (.tuple [a,b]) C:=by
 obtain⟨a',ha,rfl,hv⟩:=ea;refine⟨a,b,(a',mO C a.cells),rfl,by simp only[nE,ha];rfl,aJ.Mz _ hi hk ⟨V.Bq (λ_ h=>by cases h) hv,(V.jq hv).symm⟩ λp hp=>?_⟩;grind [JM]
@[simp] def zv5 {l:Z (Z V)}:wy (l++m)=(wy l&&wy m):=by
  induction l with
  |nil=>simp[wy]
  |cons e l ih=>rw[dx,Rx,Rx,ih,Bool.and_assoc]
def zdy(a:Entry):IU (dV a)=true:=by simp[dV]
@[simp] def zyh {l:Z Entry}:wy (l.map dV)=true:=CG λe he=>by
  obtain⟨a,_,rfl⟩:=aF.1 he;exact zdy a
@[simp] def zyg :wy (l.map b5)=true:=CG λe he=>by
  obtain⟨a,_,rfl⟩:=aF.1 he;rfl
mutual
theorem zdw:∀ x:Xp,IU (bP x)=true
 | .mk k p n m l a t=>by
   have M:=Qz l;have O:=QB a;simp[bP,M,O]
theorem Qz:∀ l:Z Xp,wy (qI l)=true
 | []=>by simp[qI,wy]
 | x::l=>by
   rw[qI];show (IU (bP x)&&wy (qI l))=true;rw[zdw x,Qz l];rfl
theorem zpU:∀ x:Am,IU (dW x)=true
 | .mk p c v b=>by
   have M:=zdw b;rw[dW];show (true&&(true&&(wy (v.map b5)&&IU (bP b))))=true;rw[M,zyg];rfl
theorem QB:∀ l:Z Am,wy (qK l)=true
 | []=>by simp[qK,wy]
 | x::l=>by
   rw[qK];show (IU (dW x)&&wy (qK l))=true;rw[zpU x,QB l];rfl
end
@[simp] def zIq {l:Z Xp}:wy (l.map bP)=true:=by rw[<- YG];exact Qz l
@[simp] def zIr {l:Z Am}:wy (l.map dW)=true:=by rw[<- YI];exact QB l
section
variable {p p':Nat×Nat}{t t':G}{l l':Z G}{z z':Y (Nat×Nat)}
@[simp] def zGs:Fq none z' [] l'=true:=by
  unfold Fq;cases z'<;>simp[Yg,dH]
@[simp] def zGr:Fq (some p) (some p') [] l'=true:=by
  unfold Fq;simp[Yg,dH]
@[simp] def zGq:Fq (some p) (some p') (t::l) (t'::l')=true:=by
  unfold Fq;simp[Yg,dH]
end
def AH(n:Z Nat):Z (Z Nat)->Y Nat
 | []=>none
 |x::l=>if x=n then some l.length else AH n l
def GK(l:Z (Z Nat))(n:Z Nat):Y Nat:=AH n l.reverse
def LS(F:Nat->Z Nat)(cb:Z (Z Nat))(n:Z Nat):Z Nat:=match GK cb n with
 |none=>n
 |some i=>F i
def nT(F:Nat->Z Nat)(i k:Nat):Z (Z Nat):=(List.range k).map λj=>F (i+j)
@[simp] def oC  :(nT F i k).length=k:=by simp[nT]
section
variable (F:Nat->Z Nat)
mutual
def Xp.can(cb:Z (Z Nat)):Xp->Xp
 |.mk k p n m ks as t=>.mk k p (if k=1 then LS F cb n else if k=4 then F cb.length else n) m (Xp.Wu (if k=4 then cb++[n]else cb) ks) (Am.Wu cb as) t
def Xp.Wu(cb:Z (Z Nat)):Z Xp->Z Xp
 | []=>[]
 |x::l=>x.can cb::Xp.Wu cb l
def Am.Wu(cb:Z (Z Nat)):Z Am->Z Am
 | []=>[]
 |.mk p c v b::l=>.mk p c (nT F cb.length v.length) (b.can (cb++v))::Am.Wu cb l
end
def Am.can(cb:Z (Z Nat))(a:Am):Am:=.mk a.pos a.dA (nT F cb.length a.vars.length) (a.body.can F (cb++a.vars))
end
section
def Xp.za9(l:Z Xp):Xp.Wu F cb l=l.map (Xp.can F cb):=by
 induction l with
 |nil=>rw[Xp.Wu];rfl
 |cons x l ih=>rw[Xp.Wu,ih];rfl
def Am.za9(l:Z Am):Am.Wu F cb l=l.map (Am.can F cb):=by
 induction l with
 |nil=>rw[Am.Wu];rfl
 |cons x l ih=>cases x;rw[Am.Wu,ih];rfl
def TQ(e:Xp)(cb:Z (Z Nat)):Z (Z Nat):=if e.kind=4 then cb++[e.name]else cb
def Xp.Na(e:Xp):e.can F cb=.mk e.kind e.pos (if e.kind=1 then LS F cb e.name else if e.kind=4 then F cb.length else e.name) e.num (e.kids.map (Xp.can F (TQ e cb))) (e.b8.map (Am.can F cb)) e.type:=by
 cases e;rw[Xp.can,Xp.za9,Am.za9];rfl
def Xp.wT(e:Xp):(e.can F cb).kind=e.kind:=by rw[Xp.Na];rfl
def Xp.qM(e:Xp):(e.can F cb).kids=e.kids.map (Xp.can F (TQ e cb)):=by rw[Xp.Na];rfl
def Xp.wU(e:Xp):(e.can F cb).b8=e.b8.map (Am.can F cb):=by rw[Xp.Na];rfl
def Xp.Gc(e:Xp):(e.can F cb).name=if e.kind=1 then LS F cb e.name else if e.kind=4 then F cb.length else e.name:=by rw[Xp.Na];rfl
def zgj{f:Xp->Xp}{l:Z Xp}(h:∀ x∈l,(f x).depth=x.depth):Xp.lM (l.map f)=Xp.lM l:=by
 induction l with
 |nil=>rfl
 |cons x l ih=>rw[aX,Xp.lM,Xp.lM,h x aB,ih λy hy=>h y (aD _ hy)]
def zmc{f:Am->Am}{l:Z Am}(h:∀ x∈l,(f x).body.depth=x.body.depth):Am.lM (l.map f)=Am.lM l:=by
 induction l with
 |nil=>rfl
 | cons x l ih =>
   have h0:=h x aB;have ih:=ih λy hy=>h y (aD _ hy);rw[aX];generalize f x=y at h0;cases x;cases y;rw[Am.lM,Am.lM,ih];simp only[Am.EO]at h0;rw[h0]
def Xp.KO(e:Xp):∀ cb,(e.can F cb).depth=e.depth:=by
 generalize hd:e.depth=d
 induction d using Nat.strongRecOn generalizing e with
 | _ d ih =>
   intro cb;rw[Xp.iY,Xp.qM,Xp.wU,zgj λx W=>ih _ (by rw[<- hd];exact Xp.lH W) x rfl _,zmc (f:=Am.can F cb) λa ha=>ih _ (by rw[<- hd];exact Xp.vF ha) a.body rfl _,<- Xp.iY,hd]
def zji{f:Xp->Xp}{l:Z Xp}(h:∀ x∈l,(f x).wide B=x.wide B):Xp.nW B (l.map f)=Xp.nW B l:=by
 induction l with
 |nil=>rfl
 |cons x l ih=>rw[aX,Xp.nW,Xp.nW,h x aB,ih λy hy=>h y (aD _ hy)]
def zqJ{f:Am->Am}{l:Z Am}(h:∀ x∈l,(f x).body.wide B=x.body.wide B):Am.nW B (l.map f)=Am.nW B l:=by
 induction l with
 |nil=>rfl
 | cons x l ih =>
   have h0:=h x aB;have ih:=ih λy hy=>h y (aD _ hy);rw[aX];generalize f x=y at h0;cases x;cases y;rw[Am.nW,Am.nW,ih];simp only[Am.EO]at h0;rw[h0]
def Xp.zqg(e:Xp):∀ cb,(e.can F cb).wide B=e.wide B:=by
 generalize hd:e.depth=d
 induction d using Nat.strongRecOn generalizing e with
 | _ d ih =>
   intro cb;rw[Xp.Eo,Xp.qM,Xp.wU,zji λx W=>ih _ (by rw[<- hd];exact Xp.lH W) x rfl _,zqJ (f:=Am.can F cb) λa ha=>ih _ (by rw[<- hd];exact Xp.vF ha) a.body rfl _,aN,aN,<- Xp.Eo]
def Xp.ziM(e:Xp):(e.can F cb).isApp=e.isApp:=by
 unfold Xp.isApp;rw[Xp.wT,Xp.qM,aN]
def zqf:x0.can F cb=x0:=by rw[Xp.Na];rfl
def Xp.zqh{e:Xp}(h:e.kind≠4):(e.can F cb).fn=e.fn.can F cb:=by
 unfold Xp.fn;rw[Xp.qM,TQ,if_neg h,bC]
 cases e.kids[0]? with
 |none=>exact zqf.symm
 |some x=>rfl
def Xp.zuR{e:Xp}(h:e.kind≠4):(e.can F cb).arg=e.arg.can F cb:=by
 unfold Xp.arg;rw[Xp.qM,TQ,if_neg h,bC]
 cases e.kids[1]? with
 |none=>exact zqf.symm
 |some x=>rfl
def QP(e:Xp):dE (e.can F cb)=((dE e).1.can F cb,(dE e).2.map (Xp.can F cb)):=by
 generalize hd:e.depth=d
 induction d using Nat.strongRecOn generalizing e with
 | _ d ih =>
   by_cases h:e.isApp=true;have h4:e.kind≠4:=(by have:=(Xp.xV.1 h).1;omega);rw[uq h,uq (by rw[Xp.ziM];exact h),Xp.zqh h4,Xp.zuR h4,ih _ (by rw[<- hd];exact Xp.lH (Xp.G9 h)) _ rfl];simp;rw[rz h,rz (by rw[Xp.ziM];exact h)];rfl
def zlS (e:Xp):∀ cb,iL (e.can F cb)=iL e:=by
 generalize hd:e.depth=d
 induction d using Nat.strongRecOn generalizing e with
 | _ d ih =>
   intro cb;rw[zV,zV e,Xp.wT,Xp.qM,aN,Xp.wU,w9,QP];split;rfl;split;by_cases M:e.kids.length=1;have hk:=Xp.N8 M;have:(e.can F cb).fn=e.fn.can F (TQ e cb):=(by unfold Xp.fn;rw[Xp.qM,bC,hk];rfl);rw[this,ih _ (by rw[<- hd];exact Xp.lH (by rw[hk];exact ag.2 rfl)) e.fn rfl];simp[M];rename_i h4;split;rw[Xp.zqh h4,Xp.wT];congr 1;exact uN λa ha=>ih _ (by rw[<- hd];exact Xp.vF ha) a.body rfl _;split;rw[w9];dsimp only;rw[Xp.wT];congr 1;exact uN λa ha=>ih _ (by rw[<- hd];exact(nS e).2.1 a ha) a rfl _;rfl
end
mutual
def Xp.K3(B:Z (Z Nat)):Xp->Z (Z Nat)->Z (Z Nat)
 |.mk k _ n _ ks as _,o=>Am.pW B as (Xp.pW (if k=4 then B++[n]else B) ks (if k=1/\n ∉ B/\n ∉ o then o++[n]else o))
def Xp.pW(B:Z (Z Nat)):Z Xp->Z (Z Nat)->Z (Z Nat)
 | [],o=>o
 |x::l,o=>Xp.pW B l (x.K3 B o)
def Am.pW(B:Z (Z Nat)):Z Am->Z (Z Nat)->Z (Z Nat)
 | [],o=>o
 |.mk _ _ v b::l,o=>Am.pW B l (b.K3 (B++v) o)
end
mutual
def Xp.AE(T B:Z (Z Nat)):Xp->Prop
 |.mk k _ n _ ks as _=>(k=1->n∈B\/n∈T)/\Xp.JV T (if k=4 then B++[n]else B) ks/\Am.JV T B as
def Xp.JV(T B:Z (Z Nat)):Z Xp->Prop
 | []=>True
 |x::l=>x.AE T B/\Xp.JV T B l
def Am.JV(T B:Z (Z Nat)):Z Am->Prop
 | []=>True
 |.mk _ _ v b::l=>b.AE T (B++v)/\Am.JV T B l
end
section
variable {T B:Z (Z Nat)}
theorem Xp.Wi{l:Z Xp}:Xp.JV T B l↔∀ x∈l,x.AE T B:=by
 induction l with
 |nil=>simp[Xp.JV]
 |cons x l ih=>rw[Xp.JV,ih];simp
theorem Am.Wi{l:Z Am}:Am.JV T B l↔∀ a∈l,a.body.AE T (B++a.vars):=by
 induction l with
 |nil=>simp[Am.JV]
 |cons x l ih=>cases x;rw[Am.JV,ih];simp
theorem Xp.OO{e:Xp}:e.AE T B↔(e.kind=1->e.name∈B\/e.name∈T)/\(∀ x∈e.kids,x.AE T (TQ e B))/\∀ a∈e.b8,a.body.AE T (B++a.vars):=by
 cases e;rw[Xp.AE,Xp.Wi,Am.Wi];rfl
end
mutual
theorem Xp.ziC:∀ (e:Xp) (B o:Z (Z Nat)) (y:Z Nat),y∈o->y∈e.K3 B o
 | .mk k p n m ks as t,B,o,y,h=>by
   rw[Xp.K3];refine Am.yQ as _ _ _ (Xp.yQ ks _ _ _ ?_);split;exact dQ _ h;exact h
theorem Xp.yQ:∀ (l:Z Xp) (B o:Z (Z Nat)) (y:Z Nat),y∈o->y∈Xp.pW B l o
 | [],B,o,y,h=>by rw[Xp.pW];exact h
 |x::l,B,o,y,h=>by rw[Xp.pW];exact Xp.yQ l _ _ _ (Xp.ziC x _ _ _ h)
theorem Am.yQ:∀ (l:Z Am) (B o:Z (Z Nat)) (y:Z Nat),y∈o->y∈Am.pW B l o
 | [],B,o,y,h=>by rw[Am.pW];exact h
 |.mk p c v b::l,B,o,y,h=>by rw[Am.pW];exact Am.yQ l _ _ _ (Xp.ziC b _ _ _ h)
end
mutual
theorem Xp.zaR:∀ (e:Xp) (T B o:Z (Z Nat)),(∀ y∈e.K3 B o,y∈T)->e.AE T B
 | .mk k p n m ks as t,T,B,o,h=>by
   rw[Xp.K3]at h;rw[Xp.AE];have O:=λy hy=>h y (Am.yQ as _ _ _ hy);refine⟨λhk=>?_,Xp.JL ks _ _ _ O,Am.JL as _ _ _ h⟩;by_cases hb:n∈B;exact .inl hb;refine .inr (O _ (Xp.yQ ks _ _ _ ?_));by_cases ho:n∈o;rw[if_neg λq=>q.2.2 ho];exact ho;rw[if_pos ⟨hk,hb,ho⟩];exact eY _ (ag.2 rfl)
theorem Xp.JL:∀ (l:Z Xp) (T B o:Z (Z Nat)),(∀ y∈Xp.pW B l o,y∈T)->Xp.JV T B l
 | [],T,B,o,h=>by rw[Xp.JV];trivial
 | x::l,T,B,o,h=>by
   rw[Xp.pW]at h;rw[Xp.JV];exact⟨Xp.zaR x _ _ _ λy hy=>h y (Xp.yQ l _ _ _ hy),Xp.JL l _ _ _ h⟩
theorem Am.JL:∀ (l:Z Am) (T B o:Z (Z Nat)),(∀ y∈Am.pW B l o,y∈T)->Am.JV T B l
 | [],T,B,o,h=>by rw[Am.JV];trivial
 | .mk p c v b::l,T,B,o,h=>by
   rw[Am.pW]at h;rw[Am.JV];exact⟨Xp.zaR b _ _ _ λy hy=>h y (Am.yQ l _ _ _ hy),Am.JL l _ _ _ h⟩
end
mutual
theorem Xp.Qt:∀ (e:Xp) (B o:Z (Z Nat)),o.Nodup->(e.K3 B o).Nodup
 | .mk k p n m ks as t,B,o,h=>by
   rw[Xp.K3];refine Am.DT as _ _ (Xp.DT ks _ _ ?_);split;rename_i q;refine ug.2 ⟨h,by simp,λa ha b hb=>?_⟩;rw[ag]at hb;subst hb;exactλe=>q.2.2 (e ▸ ha);exact h
theorem Xp.DT:∀ (l:Z Xp) (B o:Z (Z Nat)),o.Nodup->(Xp.pW B l o).Nodup
 | [],B,o,h=>by rw[Xp.pW];exact h
 |x::l,B,o,h=>by rw[Xp.pW];exact Xp.DT l _ _ (Xp.Qt x _ _ h)
theorem Am.DT:∀ (l:Z Am) (B o:Z (Z Nat)),o.Nodup->(Am.pW B l o).Nodup
 | [],B,o,h=>by rw[Am.pW];exact h
 |.mk p c v b::l,B,o,h=>by rw[Am.pW];exact Am.DT l _ _ (Xp.Qt b _ _ h)
end
def Te(k:Nat):Z Nat:=if k<10 then [48+k]else [48+k / 10,48+k % 10]
def Yd(k:Nat):Z Nat:=118::Te k
def DQ(T:Z (Z Nat)):Nat->Nat->Nat->Y (Z Nat)
 | 0,_,_=>none
 |f+1,k,n=>if Yd k∈T then DQ T f (k+1) n else if n=0 then some (Yd k)else DQ T f (k+1) (n-1)
def ztc(hi:i<100)(hk:k<100)(h:Yd i=Yd k):i=k:=by
 unfold Yd Te at h;split at h<;>split at h<;>simp at h<;>omega
def XD:Z (Z Nat):=varNames++[[119],[115],[116],[117],[118]]
structure WM(T:List (List Nat)):Prop where
 two:Yd 2∈T
 al:∀ y∈T,y∈XD
def zaf:∀ k,k<90->3<=k->Yd k ∉ XD:=by decide
def zox:∀ k,k<90->jC (Yd k)=true:=by decide
open Classical in
def LI(T:Z (Z Nat))(j:Nat):Nat:=if Yd 1∈T then j+3 else if j=0 then 1 else j+2
def yj(T:Z (Z Nat))(j:Nat):Z Nat:=Yd (LI T j)
section
variable {T:Z (Z Nat)}(h:WM T)
include h
def zfv:∀ (f n k:Nat),3<=k->k+n<90->n<f->DQ T f k n=some (Yd (k+n))
 | 0,n,k,hk,hn,hf=>by omega
 | f + 1,n,k,hk,hn,hf=>by
   rw[DQ,if_neg λe=>zaf k (by omega) hk (h.al _ e)];split;subst n;rfl;rw[zfv f (n-1) (k+1) (by omega) (by omega) (by omega)];congr 2;omega
theorem zyp(hj:j<=60):DQ T 90 1 j=some (yj T j):=by
 unfold yj LI;by_cases M:Yd 1∈T;rw[DQ,if_pos M,DQ,if_pos h.two,zfv h _ _ _ (by omega) (by omega) (by omega),if_pos M];congr 2;omega;rw[DQ,if_neg M,if_neg M];split;rfl;rw[DQ,if_pos h.two,zfv h _ _ _ (by omega) (by omega) (by omega)];congr 2;omega
theorem zuh(hj:j<=60):yj T j ∉ T:=by
 unfold yj LI;split;exactλe=>zaf _ (by omega) (by omega) (h.al _ e);split;assumption;exactλe=>zaf _ (by omega) (by omega) (h.al _ e)
omit h in
theorem zui(hi:i<=60)(hj:j<=60)(e:yj T i=yj T j):i=j:=by
 have:=ztc (i:=LI T i) (k:=LI T j) (by unfold LI;split<;>(try split)<;>omega) (by unfold LI;split<;>(try split)<;>omega) e;unfold LI at this;split at this<;>(try split at this)<;>(try split at this)<;>omega
omit h in
def zli(hj:j<=60):jC (yj T j)=true:=zox _ (by unfold LI;split<;>(try split)<;>omega)
end
section
def K0(F:Nat->Z Nat):Z Entry->Z Entry
 | []=>[]
 |e::l=>⟨F l.length,e.scheme⟩::K0 F l
structure CR(F:Nat->List Nat)(sL r ctx ctx':List Entry):Prop where
 a:ctx.reverse=r++sL
 b:ctx'.reverse=K0 F r++sL
def iJ(r:Z Entry):Z (Z Nat):=(r.map (·.name)).reverse
def Qe(r:Z Entry):(iJ r).length=r.length:=by simp[iJ]
def ziz:∀ r,(K0 F r).length=r.length
 | []=>rfl
 |e::l=>by rw[K0,aL,ziz l];rfl
def CR.nil(sL:Z Entry):CR F sL.reverse [] sL sL:=⟨rfl,rfl⟩
section
variable {sL r ctx ctx':Z Entry}
theorem CR.len(h:CR F sL r ctx ctx'):ctx'.length=ctx.length:=by
 have M:=congrArg List.length h.a;have O:=congrArg List.length h.b;rw[aR,rf]at M O;rw[ziz]at O;omega
theorem CR.push(h:CR F sL r ctx ctx')(v:Z Nat)(s:Scheme):CR F sL (⟨v,s⟩::r) (ctx++[⟨v,s⟩]) (ctx'++[⟨F (iJ r).length,s⟩]):=by
 refine⟨by simp[h.a],?_⟩;rw[Qe];simp[h.b,K0]
theorem Mt(v:Z Nat)(s:Scheme):iJ (⟨v,s⟩::r)=iJ r++[v]:=by simp[iJ]
def KB(F:Nat->Z Nat):Nat->Z Entry->Z Entry
 |_,[]=>[]
 |i,e::l=>⟨F i,e.scheme⟩::KB F (i+1) l
def CR.AW:∀ (es:Z Entry) {r ctx ctx':Z Entry},CR F sL r ctx ctx'->CR F sL (es.reverse++r) (ctx++es) (ctx'++KB F (iJ r).length es)
 | [],r,ctx,ctx',h=>by simpa [KB]using h
 | e::es,r,ctx,ctx',h=>by
   have:=CR.AW es (h.push e.name e.scheme);rw[Mt,aR,mI]at this;simpa [KB]using this
theorem Yb(es:Z Entry):iJ (es.reverse++r)=iJ r++es.map (·.name):=by simp[iJ]
theorem Ye(i k:Nat):nT F i (k+1)=F i::nT F (i+1) k:=by
 simp only[nT,List.range_succ_eq_map,aX,gI,Nat.add_zero];congr 1;refine ic λj _=>?_;simp only[Function.comp];congr 1;omega
def Yx:∀ (i:Nat) (es:Z Entry),(KB F i es).map (·.name)=nT F i es.length
 |i,[]=>rfl
 |i,e::es=>by rw[KB,aX,Yx,aL,Ye]
theorem Z8:∀ {l:Z (Z Nat)} {i:Nat},AH n l=some i->i<l.length
 | [],i,h=>by cases h
 | x::l,i,h=>by
   rw[AH]at h;split at h;cases h;simp;have:=Z8 h;simp;omega
def zcI:∀ {l:Z (Z Nat)},AH n l=none↔n ∉ l
 | []=>by simp[AH]
 | x :: l=>by
   rw[AH];split;rename_i e;simp[e];rename_i e;rw[zcI (l:=l),ay];exact⟨λh q=>q.elim (λq=>e q.symm) h,λh q=>h (.inr q)⟩
def Vr(hF:∀ i j,i<=60->j<=60->F i=F j->i=j):∀ {r:Z Entry} {i:Nat},r.length<=60->AH n (r.map (·.name))=some i->DJ n (r++sL)=DJ (F i) (K0 F r++sL)
 | [],i,_,h=>by cases h
 | e :: l,i,hl,h=>by
   rw[aL]at hl;rw[aX,AH]at h;rw[dx,K0,dx,DJ,DJ];split at h;rename_i hn;cases h;rw[if_pos hn,aN,if_pos rfl];rename_i hn;have:=Z8 h;rw[aN]at this;rw[if_neg hn,if_neg λq=>by have:=hF _ _ (by omega) (by omega) q;omega];exact Vr hF (by omega) h
def Vs(hn:∀ j,j<=60->F j≠n):∀ {r:Z Entry},r.length<=60->AH n (r.map (·.name))=none->DJ n (r++sL)=DJ n (K0 F r++sL)
 | [],_,h=>rfl
 | e :: l,hl,h=>by
   rw[aL]at hl;rw[aX,AH]at h;rw[dx,K0,dx,DJ,DJ];split at h;cases h;rename_i he;rw[if_neg he,if_neg (hn _ (by omega))];exact Vs hn (by omega) h
structure zHp(F:Nat->List Nat)(T:List (List Nat)):Prop where
 inj:∀ i j,i<=60->j<=60->F i=F j->i=j
 not:∀ j,j<=60->F j ∉ T
 low:∀ j,j<=60->jC (F j)=true
variable {T:Z (Z Nat)}(hF:zHp F T)
include hF
theorem zc2(h:CR F sL r ctx ctx')(hr:r.length<=60)(hn:n∈iJ r\/n∈T):FX ctx' (LS F (iJ r) n)=FX ctx n:=by
 unfold FX LS GK;rw[h.a,h.b,iJ,qA]
 cases hp:AH n (r.map (·.name))with
 |some i=>exact(Vr hF.inj hr hp).symm
 | none =>
   refine(Vs (λj hj e=>?_) hr hp).symm;rcases hn with hn|hn;exact zcI.1 hp (List.mem_reverse.1 hn);exact hF.not j hj (e ▸ hn)
theorem Yk(h:CR F sL r ctx ctx')(hr:r.length<=60)(hn:n∈iJ r\/n∈T):uD ctx' (LS F (iJ r) n)=uD ctx n:=by
 unfold uD;rw[zc2 hF h hr hn]
theorem ztt(h:CR F sL r ctx ctx')(hr:r.length<=60)(hn:n∈iJ r\/n∈T):decide (LS F (iJ r) n∈ctx'.map (·.name))=decide (n∈ctx.map (·.name)):=by
 have key:∀ (l:Z Entry) (m:Z Nat),decide (m∈l.map (·.name))=(FX l m).isSome:=λl m=>by rw[zkN,zy4,dI];simp
 rw[key,key,zc2 hF h hr hn]
omit hF in
theorem zci{rec:Z (Z Nat)->Xp->Bool}{x:Xp}:∀ (l:Z Am) (i:Nat),(∀ j a,l[j]?=some a->fO x (i+j)=a.vars)->Mq rec N x i (l.map Am.body)=l.all λa=>rec (N++a.vars) a.body
 | [],i,h=>rfl
 | a::l,i,h=>by
   rw[aX,Mq,iG,show fO x i=a.vars from h 0 a rfl,zci l (i+1) λj b hb=>by rw[<- h (j+1) b hb];congr 1;omega]
omit hF in
theorem zhK{e:Xp}(hv:E5 e)(d:Nat)(N:Z (Z Nat)):Cz (d+1) N e=((if e.kind=1 then decide (e.name∈N)else true)&&((e.kids.all λx=>Cz d (TQ e N) x)&&e.b8.all λa=>Cz d (N++a.vars) a.body)):=by
 let⟨ek,ep,en,em,ks,as,et⟩:=e;let⟨_,_,_,h,_⟩:=hv;rw[Cz];simp only[Xp.fH,Xp.kL,Xp.j4,Xp.lh,BX]at h ⊢;rcases h with⟨rfl,_,rfl,rfl⟩|⟨rfl,_,rfl,rfl⟩|⟨rfl,_,O,rfl⟩|⟨rfl,_,O,rfl⟩|⟨rfl,_,O,_,_⟩;simp[Mq];simp[Mq]
 match ks,O with
 | [b],_=>simp[Mq,TQ,fO]
 match ks,O with
 | [a,b],_=>simp[Mq,TQ,fO]
 match ks,O with
 | [a],_ =>
   rw[mH,Mq,zci as 1 λj a hj=>by simp[fO,hj]];simp[TQ,fO]
def Rm(cb:Z (Z Nat))(e:Xp):Prop:=cb.length+4*e.depth<=60
omit hF in
theorem Rm.kid{e x:Xp}(h:Rm cb e)(W:x∈e.kids):Rm (TQ e cb) x:=by
 have:=Xp.lH W;unfold Rm at *;unfold TQ;split;rw[aR,mI];omega;omega
omit hF in
theorem Rm.arm{e:Xp}{a:Am}(h:Rm cb e)(hv:E5 e)(ha:a∈e.b8):Rm (cb++a.vars) a.body:=by
 have:=Xp.vF ha;have:=(hv.2.2.2.2 a ha).2.2.1;unfold Rm at *;rw[aR];omega
def zoz(h:i+k<=60):∀ v∈nT F i k,jC v=true:=λv hv=>by
 obtain⟨j,hj,rfl⟩:=aF.1 hv;rw[dh]at hj;exact hF.low _ (by omega)
theorem Ve(h:i+k<=60):(nT F i k).Nodup:=by
 refine List.pairwise_map.2 (nP (λ{a b} ha hb Kp e=>?_) gQ);rw[dh]at ha hb;have:=hF.inj _ _ (by omega) (by omega) e;omega
theorem ziL {e:Xp} (hv:E5 e)  (h:Rm cb e):E5 (e.can F cb):=by
 have hd:=Xp.iY e;have hR:cb.length+4*e.depth<=60:=h;let⟨M,O,h3,h4,h5⟩:=hv;rw[Xp.Na];refine⟨M,O,h3,?_,λa ha=>?_⟩;simp only[Xp.fH,Xp.j4,Xp.kL,Xp.lh,aN,kU];rcases h4 with⟨k,g1,g2,g3⟩|⟨k,g1,g2,g3⟩|⟨k,g1,g2,g3⟩|⟨k,g1,g2,g3⟩|⟨k,g1,g2,g3,g4⟩;refine .inl ⟨k,?_,g2,g3⟩;rw[if_pos k];unfold LS GK;split;exact g1;rename_i i hi;have:=Z8 hi;rw[rf]at this;exact hF.low _ (by omega);exact .inr (.inl ⟨k,by rw[if_neg (by omega),if_neg (by omega)];exact g1,g2,g3⟩);exact .inr (.inr (.inl ⟨k,by rw[if_neg (by omega),if_pos k];exact hF.low _ (by omega),g2,g3⟩));exact .inr (.inr (.inr (.inl ⟨k,by rw[if_neg (by omega),if_neg (by omega)];exact g1,g2,g3⟩)));exact .inr (.inr (.inr (.inr ⟨k,by rw[if_neg (by omega),if_neg (by omega)];exact g1,g2,λq=>g3 (kU.1 q),g4⟩)));obtain⟨b,hb,rfl⟩:=aF.1 ha;let⟨q1,q2,q3,q4⟩:=h5 b hb;refine⟨q1,q2,by show (nT _ _ _).length<=4;rw[oC];exact q3,zoz hF (by omega)⟩
end
end
end Go.J
set_option maxRecDepth 100000
namespace Go.J
open bo (enc)
namespace ao
section
variable {n S:Nat}{s p:ao}
structure ub(n S:Nat)(s:ao):Prop where
 E8:yf n S s
 home:∀ x∈s.bc,x.home=1000000
def Gt(s s':ao):Prop:=∀ t,s.bound t=true->s'.bound t=true/\s'.to t=s.to t
theorem Gt.refl(s:ao):Gt s s:=λ_ h=>⟨h,rfl⟩
def Gt.trans{a b c:ao}(h:Gt a b)(k:Gt b c):Gt a c:=λt ht=>by
 let⟨M,O⟩:=h t ht;let⟨k1,k2⟩:=k t M;exact⟨k1,k2.trans O⟩
def nV.kept(h:nV s p):Gt s p:=λt ht=>⟨by rw[h.bound];exact ht,h.to t⟩
def ub.iH(h:ub n S s){i:Nat}(hi:i<n):(s.iH (i:Int)).home=1000000:=by
 have cF:i<s.bc.length:=by rw[h.E8.len];exact hi
 rw[pq cF];exact h.home _ (ax cF)
theorem zoP(h:ub n S s)(v:Int):ML 1000000 s v=s:=by
 unfold ML;split;rename_i hf;let⟨_,i,M,O,h3⟩:=OB (sl:=s.bc) (tr:=s.b9) hf;have M:v=(i:Int):=M;subst M;refine zjS (.refl s) ?_;rw[h.iH (by rw[<- h.E8.len];exact O)];have:=h.iH (i:=i) (by rw[<- h.E8.len];exact O);generalize s.iH (i:Int)=q at this;cases q;grind;rfl
def Yi(h:ub n S s):∀ l:Z Int,l.foldl (ML 1000000) s=s
 | []=>rfl
 |v::l=>by rw[ky,zoP h,Yi h l]
structure Up(n S:Nat)(s s':ao):Prop where
 ia:ub n S s'
 b9:s'.b9.length<=s.b9.length+2
 Lg:s'.Lg+1=s.Lg
 keeps:Gt s s'
theorem ziy(h:ub n S s){i:Nat}(hi:i<n)(h0:s.bound (fU (i:Int))=false){t:G}(ht:iA n S t)(hr:¬ s.Reach (i:Int) t):ub n S (s.vR (i:Int) t)/\(s.vR (i:Int) t).b9.length=s.b9.length+1/\(s.vR (i:Int) t).Lg+1=s.Lg/\Gt s (s.vR (i:Int) t):=by
 have cF:i<s.bc.length:=by rw[h.E8.len];exact hi
 have hb:=Rt h.E8 hi;rw[h0]at hb;have e:s.vR (i:Int) t=(s.set (i:Int) { s.iH (i:Int)with bound:=true,type:=t }).1:=by grind [vR,xG]
 rw[e];have hu:=zhF (s:=s) (i:=i) (x:={ s.iH (i:Int)with bound:=true,type:=t }) cF rfl;refine⟨⟨znP h.E8 hi rfl ht h0 hr,λx W=>?_⟩,XW cF,zsE cF rfl (by rw[<- pq cF];exact hb),λu hub=>?_⟩;rw[yC cF]at W;rcases iX W with W|rfl;exact h.home x W;exact h.iH hi;by_cases hk:u.kind=1/\u.id=(i:Int);have:s.bound u=s.bound (fU (i:Int)):=Nb (by rw[hk.1];rfl) hk.2;grind;let⟨M,O⟩:=hu.1 u hk;grind
def ztF (h:ub n S s) (hS:1<=S) {i j:Nat} (hi:i<n) (hj:j<n) (rI:i≠j) (M:s.bound (fU (i:Int))=false) (O:s.bound (fU (j:Int))=false):Up n S s (s.Bp (fU (i:Int)) (fU (j:Int))):=by
 have key:∀ {lo hi:Nat},lo<n->hi<n->lo≠hi->s.bound (fU (lo:Int))=false->s.bound (fU (hi:Int))=false->Up n S s ((s.xG (lo:Int) (s.uF (lo:Int) (hi:Int))).vR (hi:Int) (fU (lo:Int))):=by
  intro lo hi xj hhi cg pH zQu;have zpi:lo<s.bc.length:=by rw[h.E8.len];exact xj
  have M:ub n S (s.xG (lo:Int) (s.uF (lo:Int) (hi:Int)))/\nV s (s.xG (lo:Int) (s.uF (lo:Int) (hi:Int)))/\(s.xG (lo:Int) (s.uF (lo:Int) (hi:Int))).b9.length<=s.b9.length+1:=by unfold xG;split;exact⟨h,.refl,mQ _⟩;have C:=znQ (s:=s) (i:=lo) (x:=s.uF (lo:Int) (hi:Int)) zpi (by unfold uF;rw[pq zpi]) (by unfold uF;rw[pq zpi]);refine⟨⟨C.E8 h.E8,λx W=>?_⟩,C,by rw[XW zpi];exact af _⟩;rw[yC zpi]at W;rcases iX W with W|rfl;exact h.home x W;show min (s.iH (lo:Int)).home (s.iH (hi:Int)).home=_;rw[h.iH xj,h.iH hhi];rfl
  generalize s.xG (lo:Int) (s.uF (lo:Int) (hi:Int))=s1 at M;let⟨b1,e1,t1⟩:=M
  have hr:¬ s1.Reach (hi:Int) (fU (lo:Int)):=by
   intro hr;have ri:s1.bound (fU (lo:Int))=false:=by rw[e1.bound];exact pH
   cases hr with
   |here _ e=>simp[fU]at e;omega
   |to hb _=>rw[ri]at hb;cases hb
   |arg _ W _=>cases W
  let⟨g1,g2,g3,g4⟩:=ziy b1 hhi (by rw[e1.bound];exact zQu) (iA.var (S:=S) xj hS) hr;exact⟨g1,by omega,by rw[g3,e1.Lg],e1.kept.trans g4⟩
 unfold Bp;show Up n S s (if (j:Int)<(i:Int)then _ else _);split;exact key hj hi (Ne.symm rI) O M;exact key hi hj rI M O
theorem ziP(h:ub n S s)(hS:1<=S)(hn:n*S+S<=90000){i:Nat}(hi:i<n)(h0:s.bound (fU (i:Int))=false){t:G}(ht:iA n S t):((s.vT (i:Int) t).2≠0/\(s.vT (i:Int) t).1=s)\/((s.vT (i:Int) t).2=0/\Up n S s (s.vT (i:Int) t).1):=by
 let⟨v1,v2,v3⟩:=h.E8.vars hS ht (by omega);unfold vT;split;grind;rename_i hm;split;grind;split;grind;refine .inr ⟨rfl,?_⟩;rw[h.iH hi,Yi h];let⟨g1,g2,g3,g4⟩:=ziy h hi h0 ht λhr=>hm (v3 _ h0 hr);exact⟨g1,by show (s.vR (i:Int) t).b9.length<=_;omega,g3,g4⟩
def zfm(h:ub n S s)(hS:1<=S)(hn:n*S+S<=90000){a b:G}(ha:iA n S a)(hb:iA n S b) :
 ((s.mG a b).2.1≠0/\(s.mG a b).1=[]/\(s.mG a b).2.2=s)\/s.mG a b=([],0,s)\/(∃ s',s.mG a b=([],0,s')/\Up n S s s') \/
 (s.mG a b=(List.zipWith (λx y=>(⟨x,y⟩:bZ)) (s.w a).args (s.w b).args,0,s)/\(s.w a).kind≠1/\sz s.w a 200<=200):=by
 have C:=h.E8;have KZ:iA n S (s.w a):=C.mE (af S) s.bc.length ha;have n8:iA n S (s.w b):=C.mE (af S) s.bc.length hb;have fa:s.bound (s.w a)=false:=by rw[C.zDt];exact(C.zlm _ ha).walk.1
 have fb:s.bound (s.w b)=false:=by rw[C.zDt];exact(C.zlm _ hb).walk.1
 have pa:=ziB C (.refl s) KZ fa;have pb:=ziB C (.refl s) n8 fb;unfold mG;rw[pa,pb];split;exact .inl ⟨(λe=>by cases e),rfl,rfl⟩;rename_i cd;split;exact .inr (.inl rfl);rename_i cg;split;rename_i c2;let⟨i,hi,e1,zJD,b1,_⟩:=C.slot KZ c2 fa;split;rename_i c3;let⟨j,hj,e2,e2',b2,_⟩:=C.slot n8 c3 fb;refine .inr (.inr (.inl ⟨_,rfl,?_⟩));rw[e1,e2];exact ztF h hS hi hj (λe=>cg ⟨by rw[e1];rfl,by rw[e2];rfl,by rw[zJD,e2',e]⟩) b1 b2;rw[zJD];rcases ziP h hS hn hi b1 n8 with⟨M,O⟩|⟨M,O⟩;exact .inl ⟨M,rfl,O⟩;exact .inr (.inr (.inl ⟨_,by rw[M],O⟩));rename_i c2;have hk:(s.w a).kind≠1:=λhk=>c2 (zsD C KZ hk);split;rename_i c3;let⟨j,hj,e2,e2',b2,_⟩:=C.slot n8 c3 fb;rw[e2'];rcases ziP h hS hn hj b2 KZ with⟨M,O⟩|⟨M,O⟩;exact .inl ⟨M,rfl,O⟩;exact .inr (.inr (.inl ⟨_,by rw[M],O⟩));split;exact .inl ⟨(λe=>by cases e),rfl,rfl⟩;exact .inr (.inr (.inr ⟨rfl,hk,by omega⟩))
def zjk (s:ao):∀ (f:Nat) (t:G) (st:Z Int×Z Bool),st.1.Nodup->(J.Q8 s f t st).1.Nodup:=by
 intro f
 induction f with
 |zero=>intro t st h;exact h
 | succ f ih =>
   intro t st h;rw[J.Q8];split;split;split;exact ih _ _ h;exact h;split;exact h;rename_i hm;rw[ug];exact⟨h,by simp,λa ha b hb e=>by rw[ag]at hb;subst hb;subst e;exact hm ha⟩
   have key:∀ (l:Z G) (st:Z Int×Z Bool),st.1.Nodup->(l.foldl (λst x=>J.Q8 s f x st) st).1.Nodup:=by
    intro l
    induction l with
    |nil=>intro st h;exact h
    |cons x l A1=>intro st h;exact A1 _ (ih x st h)
   exact key _ _ h
def zmQ(h:yf n S s)(hS:1<=S){t:G}(ht:iA n S t)(hb:n*S+S<=100000):(qX s [t]).length<=n:=by
 let⟨v1,_,_⟩:=h.vars hS ht hb;have hd:(qX s [t]).Nodup:=by unfold J.qX;exact zjk s _ _ _ jP
 have:=zfk n ((qX s [t]).map Int.toNat) ?_ ?_
 rwa [aN]at this
 refine List.Pairwise.map _ (λa b (h:a≠b/\0<=a/\0<=b)=>?_) (nP (λ{a b} ha hb h=>⟨h,(v1 a ha).1,(v1 b hb).1⟩) hd);omega;intro x W;obtain⟨v,hv,rfl⟩:=aF.1 W;have:=v1 v hv;omega
def zs2(h:ub n S s)(hS:1<=S)(hn:n*S+S<=90000)(u5:n<=1000)(ht:s.b9.length<=3900){a b:G}(ha:iA n S a)(hb:iA n S b):∃ d1,∀ d,d1<=d->Kj d s a b:=by
 have C:=h.E8;have KZ:iA n S (s.w a):=C.mE (af S) s.bc.length ha;have n8:iA n S (s.w b):=C.mE (af S) s.bc.length hb;let⟨f1,k1⟩:=ziu (h:=(s.iH (s.w b).id).home) (C.zlm _ KZ);let⟨f2,k2⟩:=ziu (h:=(s.iH (s.w a).id).home) (C.zlm _ n8);have zOj:Tw s ⟨s.bc,[]⟩:=⟨rfl,aZ _⟩;refine⟨max f1 f2,λd hd=>⟨C.mF u5,ha.ok,hb.ok,ht,?_⟩⟩;intro v t zP2 _;have key:iA n S t/\(gC ⟨s.bc,[]⟩ (s.iH v.id).home d t []).isSome=true:=by rcases zP2 with⟨rfl,rfl⟩|⟨rfl,rfl⟩;refine⟨n8,?_⟩;let⟨r,xf⟩:=k2 [];rw[zOj.gC,FY (aO (jO f1 f2) hd) xf];rfl;refine⟨KZ,?_⟩;let⟨r,xf⟩:=k1 [];rw[zOj.gC,FY (aO (iP f1 f2) hd) xf];rfl
 exact⟨zbK C hS hn u5 key.1,by have:=zmQ C hS key.1 (by omega);omega,key.2⟩
end
end ao
end Go.J
set_option maxRecDepth 100000
namespace Go.J
open bo (enc)
namespace ao
section
variable {n S:Nat}{s p:ao}
inductive Bn (s:ao):G->G->Prop
 |to {t:G}:s.bound t=true->Bn s (s.to t) t
 |arg {t u:G}:t.kind≠1->u∈t.args->Bn s u t
 |trans {u v t:G}:Bn s u v->Bn s v t->Bn s u t
def Bl.trans{u v t:G}(h:Bl s u v)(k:Bl s v t):Bl s u t:=by
 induction h with
 |one h=>exact .more h k
 |more h _ ih=>exact .more h (ih k)
def Bn.bl{u t:G}(h:Bn s u t):Bl s u t:=by
 induction h with
 |to h=>exact .one (.inl ⟨h,rfl⟩)
 | @arg t u hk hu=>exact .one (.inr ⟨by
  cases hb:s.bound t with
  |false=>rfl
  |true=>exact absurd (Dh hb) hk,hu⟩)
 |trans _ _ h k=>exact h.trans k
def Bn.keeps{u t:G}(h:Bn s u t)(k:Gt s p):Bn p u t:=by
 induction h with
 | @to t h =>let⟨M,O⟩:=k t h;rw[<- O];exact .to M
 |arg hk hu=>exact .arg hk hu
 |trans _ _ h k=>exact h.trans k
def zhj:∀ (k:Nat) (t:G),s.mE k t=t\/Bn s (s.mE k t) t
 | 0,t=>.inl rfl
 | k + 1,t=>by
   unfold mE
   cases hb:s.bound t with
   |false=>exact .inl rfl
   | true =>
     rw[if_pos rfl];rcases zhj k (s.to t)with h|h;rw[h];exact .inr (.to hb);exact .inr (h.trans (.to hb))
def dT:Z bZ->Z G
 | []=>[]
 |e::l=>e.left::dT l
def zaw(l:Z bZ):(dT l).length=l.length:=by
 induction l with
 |nil=>rfl
 |cons x l ih=>rw[dT,aL,aL,ih]
def Qk(l m:Z bZ):dT (l++m)=dT l++dT m:=by
 induction l with
 |nil=>rfl
 |cons x l ih=>rw[dx,dT,dT,ih];rfl
inductive Fr (n S:Nat) (s:ao):List Nat->List bZ->Prop
 |base {l:List bZ}:G.bj (dT l)<=S->Fr n S s [] l
 |push {v:Nat} {V:List Nat} {l r:List bZ}:v<n->(∀ e∈l,Bn s e.left (fU (v:Int)))->G.bj (dT l)<=S->(∀ u∈V,Bn s (fU (v:Int)) (fU ((u:Nat):Int)))->Fr n S s V r->Fr n S s (v::V) (l++r)
theorem FK(l m:Z G):G.bj (l++m)=G.bj l+G.bj m:=by
 induction l with
 |nil=>simp[G.bj]
 |cons x l ih=>simp only[dx,G.bj,ih];omega
def Qj(l:Z bZ):l.length<=G.bj (dT l):=by
 induction l with
 |nil=>exact af _
 | cons x l ih =>
   have:=G.size_eq x.left;simp only[dT,G.bj,aL];omega
def Fr.keeps{V:Z Nat}{l:Z bZ}(h:Fr n S s V l)(k:Gt s p):Fr n S p V l:=by
 induction h with
 |base h=>exact .base h
 |push hv M O h3 _ ih=>exact .push hv (λe he=>(M e he).keeps k) O (λu hu=>(h3 u hu).keeps k) ih
def Fr.nodup{V:Z Nat}{l:Z bZ}(h:Fr n S s V l)(C:yf n S s):V.Nodup/\(∀ v∈V,v<n)/\l.length<=S*(V.length+1):=by
 induction h with
 |base h=>exact⟨jP,λv hv=>(by cases hv),aO (Qj _) (by simpa using h)⟩
 | @push v V l r hv M O h3 _ ih =>
   let⟨i1,i2,i3⟩:=ih;refine⟨gK.2 ⟨λhm=>(h3 v hm).bl.zLw (C.fin v hv) ,i1⟩,λu hu=>?_,?_⟩;rcases ay.1 hu with rfl|hu;exact hv;exact i2 u hu;have:=Qj l;rw[aR,aL,Nat.mul_add S (V.length+1) 1];omega
def Fr.len{V:Z Nat}{l:Z bZ}(h:Fr n S s V l)(C:yf n S s):l.length<=S*(n+1):=by
 let⟨M,O,h3⟩:=h.nodup C;have:=zfk n V M O;exact aO h3 (kT _ (by omega))
def Fr.tail{V:Z Nat}{l l':Z bZ}{e:bZ}(h:Fr n S s V l)(hl:l=e::l'):∃ V',Fr n S s V' l'/\∀ u∈V',Bn s e.left (fU ((u:Nat):Int)):=by
 induction h with
 | base h =>subst hl;simp only[dT,G.bj]at h;exact⟨[],.base (by omega),λu hu=>(by cases hu)⟩
 | @push v V l r hv M O h3 hr ih =>
   cases l with
   |nil=>exact ih hl
   | cons x l =>
     rw[dx,List.cons.injEq]at hl;obtain⟨rfl,rfl⟩:=hl;have W:=M x (aB ..);simp only[dT,G.bj]at O;refine⟨v::V,.push hv (λe he=>M e (aD _ he)) (by omega) h3 hr,λu hu=>?_⟩;rcases ay.1 hu with rfl|hu;exact W;exact W.trans (h3 u hu)
theorem Fr.same{V:Z Nat}{l l' q:Z bZ}{e:bZ}(h:Fr n S s V l)(hl:l=e::l')(hq:∀ x∈q,Bn s x.left e.left)(hz:G.bj (dT q)<=e.left.size):∃ V',Fr n S s V' (q++l'):=by
 induction h with
 | base h =>subst hl;simp only[dT,G.bj]at h;exact⟨[],.base (by rw[Qk,FK];omega)⟩
 | @push v V l r hv M O h3 hr ih =>
   cases l with
   |nil=>exact ih hl
   | cons x l =>
     rw[dx,List.cons.injEq]at hl;obtain⟨rfl,rfl⟩:=hl;have W:=M x (aB ..);simp only[dT,G.bj]at O;refine⟨v::V,?_⟩;rw[<- fA];refine .push hv (λe he=>?_) (by rw[Qk,FK];omega) h3 hr;rcases bu.1 he with he|he;exact(hq e he).trans W;grind
def Fr.deep{V:Z Nat}{l l' q:Z bZ}{e:bZ}{i:Nat}(h:Fr n S s V l)(hl:l=e::l')(he:e.left=fU (i:Int))(hi:i<n)(hq:∀ x∈q,Bn s x.left e.left)(hz:G.bj (dT q)<=S):∃ V',Fr n S s V' (q++l'):=by
 let⟨V',M,O⟩:=h.tail hl;rw[he]at O hq;exact⟨i::V',.push hi hq hz O M⟩
def zsr(w:G->G)(l m:Z G):vA w (l++m)=vA w l+vA w m:=by
 induction l with
 |nil=>simp[vA]
 |cons x l ih=>simp only[dx,vA,ih];omega
def zss(w:G->G)(l:Z G):vA w l<=201*l.length:=by
 induction l with
 |nil=>exact af _
 |cons x l ih=>have:=zvQ (w:=w) x 200;simp only[vA,aL];omega
def zbG(w:G->G):∀ l m:Z G,vA w (dT (List.zipWith (λx y=>(⟨x,y⟩:bZ)) l m))<=vA w l/\G.bj (dT (List.zipWith (λx y=>(⟨x,y⟩:bZ)) l m))<=G.bj l
 | [],m=>⟨aZ _,aZ _⟩
 |x::l,[]=>⟨aZ _,aZ _⟩
 | x::l,y::m=>by
   have:=zbG w l m;simp only[List.zipWith_cons_cons,dT,vA,G.bj];omega
def TF:∀ {l m:Z G} {e:bZ},e∈List.zipWith (λx y=>(⟨x,y⟩:bZ)) l m->e.left∈l/\e.right∈m
 | [],m,e,h=>by cases h
 |x::l,[],e,h=>by cases h
 | x :: l,y::m,e,h=>by
   rw[List.zipWith_cons_cons]at h;rcases ay.1 h with rfl|h;exact⟨aB ..,aB ..⟩;let⟨M,O⟩:=TF h;exact⟨aD _ M,aD _ O⟩
structure zvw(n S:Nat)(s:ao)(l:List bZ)(d1 f:Nat)(r:ao×Int):Prop where
 run:∀ d,d1<=d->∀ g,lQ d (g+f) s l=some r
 ia:ub n S r.1
 b9:r.1.b9.length+2*r.1.Lg<=s.b9.length+2*s.Lg
 keeps:Gt s r.1
def IY{s s':ao}{l' q:Z bZ}{e:bZ}{d0 d1 f:Nat}{r:ao×Int}(hp:∀ d,d0<=d->Kj d s e.left e.right)(hl:l'.length<=7000)(hq:q.length<=1000)(hP:s.mG e.left e.right=(q,0,s'))(hu:s'.b9.length+2*s'.Lg<=s.b9.length+2*s.Lg)(hk:Gt s s')(h:zvw n S s' (q++l') d1 f r):zvw n S s (e::l') (max d0 d1) (f+1) r:=by
 refine⟨λd hd g=>?_,h.ia,aO h.b9 hu,hk.trans h.keeps⟩;show lQ d (g+f+1) s (e::l')=_;rw[lQ,if_pos ⟨hp d (by omega),hl,by rw[hP];exact hq⟩,if_pos (by rw[hP]),hP];exact h.run d (by omega) g
theorem zbI (hS:1<=S) (hS2:S<=1000) (hn:n*S+S<=90000) (u5:n<=1000) (sT:S*(n+1)<=7000):∀ (cI:Nat) {s:ao} {V:Z Nat} {l:Z bZ},ub n S s->Fr n S s V l->(∀ e∈l,iA n S e.left/\iA n S e.right)->s.b9.length+2*s.Lg<=3900->s.Lg*2000000+vA s.w (dT l)<=cI->∃ d1 f r,zvw n S s l d1 f r:=by
 intro cI
 induction cI with
 | zero =>
   intro s V l h hf ht ON hM
   cases l with
   |nil=>exact⟨0,1,(s,0),λd _ g=>rfl,h,af _,.refl s⟩
   | cons e l =>grind [zno,w,dT,vA]
 | succ cI ih =>
   intro s V l h hf ht ON hM
   cases l with
   |nil=>exact⟨0,1,(s,0),λd _ g=>rfl,h,af _,.refl s⟩
   | cons e l =>
     let⟨ha,hb⟩:=ht e (aB ..);have ht':∀ x∈l,iA n S x.left/\iA n S x.right:=λx W=>ht x (aD _ W);have hp:=zno (w:=s.w) e.left 200;simp only[dT,vA]at hM;have hlen:=hf.len h.E8;rw[aL]at hlen;let⟨d0,eC⟩:=zs2 h hS hn u5 (by omega) ha hb;let⟨V',Bx,_⟩:=hf.tail rfl;rcases zfm h hS hn ha hb with⟨M,O,h3⟩|M|⟨s',M,hu⟩|⟨M,hk,hz⟩;refine⟨d0,1,(s,(s.mG e.left e.right).2.1),λd hd g=>?_,h,af _,.refl s⟩;grind [lQ];let⟨d1,f,r,hr⟩:=ih h Bx ht' ON (by omega);exact⟨_,_,_,IY eC (by omega) (aZ _) M (af _) (.refl s) hr⟩;have zMy:=zss s'.w (dT l);have hu1:=hu.Lg;have hu2:=hu.b9;rw[zaw]at zMy;have hM2:s'.Lg*2000000+vA s'.w (dT l)<=cI:=(by grind);let⟨d1,f,r,hr⟩:=ih hu.ia (Bx.keeps hu.keeps) ht' (by omega) hM2;exact⟨_,_,_,IY eC (by omega) (aZ _) M (by omega) hu.keeps hr⟩;have C:=h.E8;have KZ:iA n S (s.w e.left):=C.mE (af S) s.bc.length ha;have n8:iA n S (s.w e.right):=C.mE (af S) s.bc.length hb;let⟨z1,z2⟩:=zbG s.w (s.w e.left).args (s.w e.right).args;have z3:=znn (w:=s.w) (a:=e.left) hz;have z4:=G.size_eq (s.w e.left);have z5:=KZ.size
     have hbn:∀ x∈List.zipWith (λx y=>(⟨x,y⟩:bZ)) (s.w e.left).args (s.w e.right).args,Bn s x.left e.left:=λx W=>by
      have O:Bn s x.left (s.w e.left):=.arg hk (TF W).1;rcases zhj (s:=s) s.bc.length e.left with hw|hw;have hw:s.w e.left=e.left:=hw
      rwa [hw]at O
      exact O.trans hw
     have hq:∃ V',Fr n S s V' (List.zipWith (λx y=>(⟨x,y⟩:bZ)) (s.w e.left).args (s.w e.right).args++l):=by
      by_cases mw:e.left.kind=1;have e1:=zT ha.plain mw;let⟨v0,v1⟩:=ha.vars _ (.self mw);let⟨i,hi⟩:=bE v0;rw[hi]at e1 v1;exact hf.deep rfl e1 (by omega) hbn (by omega)
      have hw:s.w e.left=e.left:=PH (by
       cases hb:s.bound e.left with
       |false=>rfl
       |true=>exact absurd (Dh hb) mw) _
      rw[hw]at z4;refine hf.same rfl hbn ?_;grind
     let⟨V2,hq⟩:=hq;have GF:(List.zipWith (λx y=>(⟨x,y⟩:bZ)) (s.w e.left).args (s.w e.right).args).length<=1000:=by have:=Qj (List.zipWith (λx y=>(⟨x,y⟩:bZ)) (s.w e.left).args (s.w e.right).args);omega
     let⟨d1,f,r,hr⟩:=ih h hq (λx W=>by
      rcases bu.1 W with W|W;exact⟨KZ.arg (TF W).1,n8.arg (TF W).2⟩
      exact ht' x W) ON (by rw[Qk,zsr];omega)
     exact⟨_,_,_,IY eC (by omega) GF M (af _) (.refl s) hr⟩
def zjh(hS:1<=S)(hS2:S<=1000)(hn:n*S+S<=90000)(u5:n<=1000)(sT:S*(n+1)<=7000){s:ao}{a b:G}(h:ub n S s)(ha:iA n S a)(hb:iA n S b)(ht:s.b9.length+2*s.Lg<=3900):∃ d1 f r,zvw n S s [⟨a,b⟩] d1 f r :=
 zbI hS hS2 hn u5 sT _ h (V:=[]) (.base (by simp only[dT,G.bj];have:=ha.size;omega)) (λe he=>by rw[ag]at he;subst he;exact⟨ha,hb⟩) ht (af _)
end
end ao
end Go.J
set_option maxRecDepth 100000
set_option maxRecDepth 100000
namespace Go.J
open bo (enc)
def iA.up{n n' S:Nat}{t:G}(h:iA n S t)(hn:n<=n'):iA n' S t:=⟨h.ok,h.plain,h.size,λu hu=>by have:=h.vars u hu;omega⟩
def iA.node{n S:Nat}{t:G}(hk:t.kind≠1)(ho:t.ok=true)(C:t.size<=S)(ha:∀ x∈t.args,iA n S x):iA n S t:=⟨ho,I5 hk λx W=>(ha x W).plain,C,λu hu=>by
 cases hu with
 |self h=>exact absurd h hk
 |arg _ W hu=>exact(ha _ W).vars u hu⟩
def iA.self{n S:Nat}{t:G}(h:iA n S t):iA n t.size t:=⟨h.ok,h.plain,af _,h.vars⟩
def zcv {g:G->G} {n n':Nat} (hg:∀ x:G,x.args=[]->iA n 1 x->iA n' 1 (g x)) (t:G):∀ {S:Nat},iA n S t->iA n' S (t.GH g)/\(t.GH g).size=t.size:=by
 induction t using G.ind with
 | h t ih =>
   intro S h;by_cases ha:t.args=[];rw[zcw ha];have C:t.size=1:=(by rw[G.size_eq,ha];rfl);have M:=hg t ha (by have:=h.self;rwa [C]at this);have hp:=M.size;have hq:=G.size_eq (g t);have:=h.size;exact⟨M.le (by omega),by omega⟩;have hk:t.kind≠1:=λhk=>ha (h.zow hk)
   have key:∀ l:Z G,(∀ x∈l,(x.GH g).size=x.size)->G.bj (l.map (G.GH g))=G.bj l:=by
    intro l
    induction l with
    |nil=>intro _;rfl
    |cons x l A1=>intro hh;rw[aX,G.bj,G.bj,hh x (aB ..),A1 λy hy=>hh y (aD _ hy)]
   have hz:(t.GH g).size=t.size:=(by rw[NT ha,G.size_eq,G.size_eq t];simp only[G.iT];rw[key t.args λx W=>(ih x W (h.arg W)).2]);refine⟨?_,hz⟩;have ha2:(t.GH g).args=t.args.map (G.GH g):=(by rw[NT ha];rfl);refine iA.node (by rw[NT ha];exact hk) ?_ (by rw[hz];exact h.size) λx W=>?_;refine G.qH.2 ⟨by rw[ha2,aN];exact(G.qH.1 h.ok).1,λx W=>?_⟩;rw[ha2]at W;obtain⟨y,hy,rfl⟩:=aF.1 W;exact(ih y hy (h.arg hy)).1.ok;rw[ha2]at W;obtain⟨y,hy,rfl⟩:=aF.1 W;exact(ih y hy (h.arg hy)).1
namespace ao
section
variable {n S:Nat}{s:ao}
theorem zea{x:Slot}{tr:Z Change}(id:Int):(⟨s.bc++[x],tr⟩:ao).cE id=if id=(s.bc.length:Int)then some x else s.cE id:=by
 unfold cE;grind
theorem QV{x:Slot}(W:x.bound=false){tr:Z Change}(t:G):(⟨s.bc++[x],tr⟩:ao).bound t=s.bound t:=by
 unfold bound;rw[zea];by_cases h:t.id=(s.bc.length:Int);rw[if_pos h];have:s.cE t.id=none:=by rw[h,fj];grind
 grind;grind
theorem zAg{x:Slot}{tr:Z Change}{t:G}(h:s.bound t=true):(⟨s.bc++[x],tr⟩:ao).to t=s.to t:=by
 let⟨_,i,y,hi,hl,_⟩:=pY h;unfold ao.to;grind [zea]
def zu8{x:Slot}(W:x.bound=false){tr:Z Change}{t:G}(h:s.Fin t):(⟨s.bc++[x],tr⟩:ao).Fin t:=by
 refine Fin.ind (p:=(⟨s.bc++[x],tr⟩:ao).Fin) (λt hb ih=>?_) (λt hb ih=>?_) h;exact .W3 ((QV W t).trans hb) (by rw[zAg hb];exact ih);exact .zBH ((QV W t).trans hb) ih
theorem zu1 (h:ub n S s) {b:Bool} {tr:Z Change}:ub (n+1) S ⟨s.bc++[⟨false,wI,1000000,b⟩],tr⟩/\Lg ⟨s.bc++[⟨false,wI,1000000,b⟩],tr⟩=s.Lg+1:=by
 refine⟨⟨⟨by simp[h.E8.len],λx W=>?_,λi hi=>?_⟩,λx W=>?_⟩,?_⟩;rcases bu.1 W with W|W;have:=h.E8.types x W;split at this;rename_i hb;rw[if_pos hb];exact this.up (mQ _);grind;grind;by_cases hn:i<n;exact zu8 rfl (h.E8.fin i hn);refine .zBH ?_ λu hu=>by cases hu
 rw[QV rfl]
 cases hb:s.bound (fU (i:Int))with
 |false=>rfl
 | true =>let⟨_,j,y,hj,hl,_⟩:=pY hb;have hj:(i:Int)=j:=hj;have:=h.E8.len;omega
 rcases bu.1 W with W|W;exact h.home x W;grind;unfold Lg;grind
def zu0:ub 0 S ⟨[],[]⟩:=⟨⟨rfl,λx W=>(by cases W),λi hi=>(by omega)⟩,λx W=>(by cases W)⟩
end
end ao
mutual
def G.app(θ:Int->G):G->G
 |.mk k n i h l=>if k=1 then θ i else .mk k n i h (G.apps θ l)
def G.apps(θ:Int->G):Z G->Z G
 | []=>[]
 |t::l=>G.app θ t::G.apps θ l
end
mutual
def G.WZ(j:Int):G->Bool
 |.mk k _ i _ l=>if k=1 then decide (i=j)else G.occs j l
def G.occs(j:Int):Z G->Bool
 | []=>false
 |t::l=>G.WZ j t||G.occs j l
end
theorem zad(j:Int)(l:Z G):G.occs j l=l.any (G.WZ j):=by
 induction l with
 |nil=>simp[G.occs]
 |cons t l ih=>simp[G.occs,ih]
def zya(j:Int)(t:G):t.WZ j=if t.kind=1 then decide (t.id=j)else t.args.any (G.WZ j):=by
 cases t;simp only[G.WZ,G.fH,G.wP,G.iT,zad]
theorem zcW(out:Z Int)(t:G)(j:Int):j∈vD out t↔j∈out\/(t.kind=1/\t.id=j):=by
 unfold vD;grind
theorem zfy{l:Z G}(h:∀ t∈l,∀ (out:Z Int) (j:Int),j∈F7 t out↔j∈out\/t.WZ j=true):∀ (out:Z Int) (j:Int),j∈wS l out↔j∈out\/∃ t∈l,t.WZ j=true:=by
 induction l with
 |nil=>intro out j;simp[wS]
 | cons t l ih =>
   grind [wS,List.mem_cons_of_mem,List.mem_cons_self]
theorem zoL(t:G):t.pQ=true->∀ (out:Z Int) (j:Int),j∈F7 t out↔j∈out\/t.WZ j=true:=by
 induction t using G.ind with
 | h t ih =>
   intro hp out j;have hv:=I1.1 (Ra hp);rw[zuK,zfy (λu hu=>ih u hu (hv u hu)),zcW,zya];by_cases hk:t.kind=1;have e:=zT hp hk;have ha:t.args=[]:=(by rw[e];rfl);grind;grind
section
variable {s:Z cU}{pos:Int->Int}{S:Int->Prop}
theorem zke{l:Z G}(h:∀ t∈l,∀ out:Z Int,(∀ j∈out,S j)->(t.yF s).KU (out.map pos)=(F7 t out).map pos/\∀ j∈F7 t out,S j) :
 ∀ out:Z Int,(∀ j∈out,S j)->G.Ig (l.map (G.yF s)) (out.map pos)=(wS l out).map pos/\∀ j∈wS l out,S j:=by
 induction l with
 |nil=>intro out ho;exact⟨rfl,ho⟩
 | cons t l ih =>
   intro out ho;let⟨M,O⟩:=h t aB out ho;let⟨h3,h4⟩:=ih (λu hu=>h u (aD _ hu)) _ O;grind [G.Ig,wS]
def zl2 (hinj:∀ i j,S i->S j->pos i=pos j->i=j) (C:∀ j,S j->wO s j=some (ry (pos j))) (hb:∀ j,S j->0<=pos j/\pos j<=1000000) (t:G) :
 t.valid=true->t.rU 2=false->t.rU 5=false->(∀ j,t.WZ j=true->S j) ->
  (∀ out:Z Int,(∀ j∈out,S j)->(t.yF s).KU (out.map pos)=(F7 t out).map pos/\∀ j∈F7 t out,S j)/\(t.yF s).valid=true/\(t.yF s).closed true=true/\(t.yF s).size=t.size:=by
 induction t using G.ind with
 | h t ih =>
   intro hv O h5 ho;let⟨k,n,i,h,l⟩:=t;let⟨hk,h4,hl⟩:=G.I6 hv;rw[G.rU]at O h5;rw[nk,decide_eq_false_iff_not]at O h5;by_cases k1:k=1;subst k1;obtain rfl:=h4 (by decide);have IF:S i:=ho i (by rw[G.WZ];simp);have e:(G.mk 1 n i h []).yF s=ry (pos i):=(by rw[ZR];show (wO s i).getD _=_;rw[C i IF];rfl);let⟨b1,b2⟩:=hb i IF;rw[e];refine⟨λout pA=>⟨?_,λj hj=>?_⟩,by simp[ry,G.valid,b1,b2],by simp[ry,G.closed,G.Bb],rfl⟩;rw[F7,wS];unfold ry vD;rw[G.KU,G.Ig];simp only[G.fH,G.wP,true_and];by_cases hi:i∈out;rw[if_neg (λh=>h (aF.2 ⟨i,hi,rfl⟩)),if_neg (λh=>h hi)];rw[if_pos (λh=>by let⟨j,hj,hjp⟩:=aF.1 h;exact hi (hinj j i (pA j hj) IF hjp ▸ hj)),if_pos hi,fe];rfl;rw[F7,wS]at hj;unfold vD at hj;split at hj;rcases bu.1 hj with hj|hj;exact pA j hj;rw[ag]at hj;subst hj;exact IF;exact pA j hj;have zis:∀ u∈l,(∀ out:Z Int,(∀ j∈out,S j)->(u.yF s).KU (out.map pos)=(F7 u out).map pos/\∀ j∈F7 u out,S j)/\(u.yF s).valid=true/\(u.yF s).closed true=true/\(u.yF s).size=u.size:=λu hu=>(by refine ih u hu (G.Gx.1 hl u hu) ?_ ?_ λj hj=>ho j ?_;have:=O.2;rw[G.Kz,uj]at this;simpa using this u hu;have:=h5.2;rw[G.Kz,uj]at this;simpa using this u hu;rw[G.WZ,if_neg k1,zad,dN];exact⟨u,hu,hj⟩);have e:(G.mk k n i h l).yF s=.mk k n i h (l.map (G.yF s)):=(by rw[ZR];exact if_neg k1);rw[e];refine⟨λout pA=>?_,?_,?_,?_⟩;rw[G.KU,if_neg (λh=>O.1 h.1),F7];have:vD out (.mk k n i h l)=out:=(by unfold vD;rw[if_neg (λh=>k1 h.1)]);rw[this];exact zke (λu hu=>(zis u hu).1) out pA;have fy:G.rq (l.map (G.yF s))=true:=G.Gx.2 λu hu=>(by obtain⟨w,hw,rfl⟩:=aF.1 hu;exact(zis w hw).2.1);unfold G.valid at hv ⊢;rw[aN,fy];rw[hl]at hv;exact hv;rw[G.closed,G.JZ,aW];refine⟨by rcases hk with h|h|h|h|h<;>first|exact absurd h k1|exact absurd h O.1|exact absurd h h5.1|simp[h],au.2 λu hu=>?_⟩;obtain⟨w,hw,rfl⟩:=aF.1 hu;exact(zis w hw).2.2.1;rw[G.size_eq,G.size_eq (.mk k n i h l)];simp only[G.iT];congr 1
   have:∀ l:Z G,(∀ u∈l,(u.yF s).size=u.size)->G.bj (l.map (G.yF s))=G.bj l:=by
    intro l
    induction l with
    |nil=>intro _;rfl
    |cons a l A1=>intro hh;rw[aX,G.bj,G.bj,hh a aB,A1 λu hu=>hh u (aD _ hu)]
   exact this l λu hu=>(zis u hu).2.2.2
end
def zjv{vs:Z Int}(hn:vs.Nodup)(hm:∀ j∈vs,j=0\/j=1):vs=[]\/vs=[0]\/vs=[1]\/vs=[0,1]\/vs=[1,0]:=by
 match vs,hn,hm with
 | [],_,_=>exact .inl rfl
 | [a],_,hm =>rcases hm a (by simp)with rfl|rfl;exact .inr (.inl rfl);exact .inr (.inr (.inl rfl))
 | [a,b],hn,hm =>
   have Kp:a≠b:=(by simpa using hn);rcases hm a (by simp)with rfl|rfl<;>rcases hm b (by simp)with rfl|rfl
   exact absurd rfl Kp;exact .inr (.inr (.inr (.inl rfl)));exact .inr (.inr (.inr (.inr rfl)));exact absurd rfl Kp
 | a::b::c::l,hn,hm =>
   exfalso;have M:=hm a (by simp);have O:=hm b (by simp);have h3:=hm c (by simp);simp at hn;omega
theorem zlJ{x:G}(hv:x.valid=true)(hp:x.pQ=true)(O:x.rU 2=false)(h5:x.rU 5=false)(ho:∀ j,x.WZ j=true->j=0\/j=1) :
 kW (yU x [0,1])=true/\(yU x [0,1]).type.closed true=true/\(yU x [0,1]).type.size=x.size/\(yU x [0,1]).count<=2:=by
 have zMf:um [x]=F7 x []:=by rw[<- YY hv,wS,wS]
 have eE:∀ j,j∈um [x]↔x.WZ j=true:=λj=>by rw[zMf,zoL x hp];simp
 have eV:(um [x]).Nodup:=by rw[<- YY hv];exact JX [x] jP
 have key:∀ (s:Z cU) (pos:Int->Int),(∀ i j,i∈um [x]->j∈um [x]->pos i=pos j->i=j)->(∀ j,j∈um [x]->wO s j=some (ry (pos j)))->(∀ j,j∈um [x]->0<=pos j/\pos j<=1000000)->wC (um [x]) [0,1] []=s->Ow ((um [x]).map pos) 0=true->s.length=(um [x]).length->s.length<=2 ->
  kW (yU x [0,1])=true/\(yU x [0,1]).type.closed true=true/\(yU x [0,1]).type.size=x.size/\(yU x [0,1]).count<=2:=by
  intro s pos k1 k2 k3 k4 k5 k6 k7;let⟨r1,r2,r3,r4⟩:=zl2 (S:=λj=>j∈um [x]) k1 k2 k3 x hv O h5 (λj hj=>(eE j).2 hj);have r5:=(r1 [] (λj hj=>by cases hj)).1;grind [yU,G.Hl,kW,List.length_map]
 generalize fy:um [x]=vs at eV eE key;rcases zjv eV (λj hj=>ho j ((eE j).1 hj))with rfl|rfl|rfl|rfl|rfl;exact key [] (λj=>j) (by simp) (by simp) (by simp) rfl rfl rfl (by decide);exact key [⟨0,ry 0⟩] (λj=>j) (by simp) (by simp[wO]) (by simp) rfl rfl rfl (by decide);exact key [⟨1,ry 0⟩] (λj=>j-1) (by simp) (by simp[wO]) (by simp) rfl rfl rfl (by decide);exact key [⟨0,ry 0⟩,⟨1,ry 1⟩] (λj=>j) (by simp) (by simp[wO]) (by simp) rfl rfl rfl (by decide);exact key [⟨1,ry 0⟩,⟨0,ry 1⟩] (λj=>1-j) (by simp) (by simp[wO]) (by simp) rfl rfl rfl (by decide)
theorem Dm{D:Z Decl}{Lv:Z G}{q:Int}(hq:q≠4)(hl:∀ l∈Lv,l.rU q=false)(d:Nat)(t:Tp):(jk d t D Lv).2.rU q=false:=by
 have aq:∀ (n:Z Nat) (l:Z G),(∀ x∈l,x.rU q=false)->(wJ n l).rU q=false:=λn l hl=>by grind [wJ,G.rU,G.Kz,Bool.or_eq_false_iff,List.any_eq_false]
 exact C8 (P:=λt=>t.rU q=false) hl (aq _ _ (λx W=>by cases W)) (λdd _ l _ W=>aq _ _ W) (λa b ha hb=>aq _ _ (λx W=>by
  simp at W;rcases W with rfl|rfl;exact ha
  exact hb)) d t
theorem zju{D:Z Decl}{Lv:Z G}{S:Int->Prop}(hl:∀ l∈Lv,∀ j,l.WZ j=true->S j)(d:Nat)(t:Tp):∀ j,(jk d t D Lv).2.WZ j=true->S j:=by
 have aq:∀ (n:Z Nat) (l:Z G),(∀ x∈l,∀ j,x.WZ j=true->S j)->∀ j,(wJ n l).WZ j=true->S j:=λn l hl j hj=>by grind [wJ,G.WZ,zad,List.any_eq_true]
 exact C8 (P:=λt=>∀ j,t.WZ j=true->S j) hl (aq _ _ (λx W=>by cases W)) (λdd _ l _ W=>aq _ _ W) (λa b ha hb=>aq _ _ (λx W=>by
  simp at W;rcases W with rfl|rfl;exact ha
  exact hb)) d t
theorem Zz{D:Z Decl}(hD:zmr D)(d:Nat)(t:Tp):(jk d t D lI).2.closed false=true:=by
 have hv:∀ l∈lI,l.valid=true:=by decide
 have hk:∀ q:Int,q=1\/q=2\/q=5->∀ l∈lI,l.rU q=false:=by rintro q (rfl|rfl|rfl)<;>decide
 grind [G.Hl,Er,Dm]
theorem zkf:∀ (t:G),t.rU 2=false->∀ out,t.KU out=out:=by
 intro t
 induction t using G.ind with
 | h t ih =>
   intro h out;rw[G.zaN,nk,decide_eq_false_iff_not]at h;rw[G.zsU,if_neg (λhh=>h.1 hh.1)]
   have key:∀ l:Z G,(∀ u∈l,∀ out,u.KU out=out)->G.Ig l out=out:=by
    intro l
    induction l with
    |nil=>intro _;rfl
    |cons a l A1=>intro hh;rw[G.Ig,hh a aB,A1 λu hu=>hh u (aD _ hu)]
   grind [G.Kz,List.any_eq_false]
theorem zaj{x:G}(hv:x.valid=true)(O:x.rU 2=false)(h5:x.rU 5=false):kW (mono x)=true:=by
 grind [kW,mono,zkf,Ow]
def zdv(e:Entry):Bool:=kW e.scheme&&e.scheme.type.closed true&&decide (e.scheme.type.size<=7)&&decide (e.scheme.count<=2)
theorem Sa {D:Z Decl} (hD:zmr D) (HQ:L7 D) (t:Tp) (n:Nat):∀ e∈(Fx D t n).2,zdv e=true:=by
 have E3:∀ l∈lI,l.valid=true:=by decide
 have hk:∀ q:Int,q=1\/q=2\/q=5->∀ l∈lI,l.rU q=false:=by rintro q (rfl|rfl|rfl)<;>decide
 have cp:∀ l∈lI,l.size<=1:=by decide
 have od:rR 2=[fU 0,fU 1]:=rfl
 induction n with
 |zero=>intro e he;cases he
 | succ n ih =>
   intro e he;rw[Fx]at he;unfold Hf at he;dsimp only at he;split at he;rcases bu.1 he with he|he;exact ih e he;rw[ag]at he;subst he;generalize (((Fx D t n).1.next 8).1.next 4).1=u;have hw:∀ l∈rR 2,l.valid=true:=(by rw[od];decide);have hp:∀ l∈rR 2,l.pQ=true:=(by rw[od];decide);have O:∀ l∈rR 2,l.rU 2=false:=(by rw[od];decide);have h5:∀ l∈rR 2,l.rU 5=false:=(by rw[od];decide);have cd:∀ l∈rR 2,l.size<=1:=by rw[od];decide
   let⟨c1,c2,c3,c4⟩:=zlJ (Er hD hw 2 u) (Nv hp 2 u) (Dm (by decide) O 2 u) (Dm (by decide) h5 2 u) (zju (S:=λj=>j=0\/j=1) (by
    rw[od];intro l hl j hj;simp at hl
    rcases hl with rfl|rfl<;>simp[fU,G.WZ]at hj<;>omega) 2 u)
   have:=Dl HQ cd 2 u;grind [zdv];rcases bu.1 he with he|he;exact ih e he;rw[ag]at he;subst he;generalize (((Fx D t n).1.next 8).1.next 4).1=u;have hxv:=Er hD E3 2 u;have:=Dl HQ cp 2 u;have ew:(jk 2 u D lI).2.closed true=true:=(by grind [G.Hl,Dm]);grind [zdv,zaj,Dm,mono]
def Vk{D:Z Decl}(hD:zmr D)(HQ:L7 D)(t:Tp)(n:Nat):EM (Fx D t n).2 (jk 2 (Fx D t n).1 D lI).2=true:=by
 have E3:∀ l∈lI,l.valid=true:=by decide
 have cp:∀ l∈lI,l.size<=1:=by decide
 have M:=Sa hD HQ t n;have O:=Dl HQ cp 2 (Fx D t n).1;unfold EM;rw[Er hD E3 2 (Fx D t n).1,Zz hD 2 (Fx D t n).1,au.2 (λe he=>by have:=M e he;unfold zdv at this;simp only[aW,decide_eq_true_eq]at this ⊢;exact⟨this.1.1,by omega⟩)];simp;omega
def Xw{D:Z Decl}(hD:zmr D)(HQ:L7 D)(b6:Z Int):EM (gX b6 D).1 (gX b6 D).2.1=true :=
 Vk hD HQ _ _
end Go.J
set_option maxRecDepth 100000
namespace Go.J
open bo (enc)
theorem J2{b:Bool}(t:G)(ho:t.ok=true)(h:t.closed b=true):iA 0 t.size t:=by
 induction t using G.ind with
 | h t ih =>
   have hk:t.kind≠1:=(by cases t;rw[G.closed,aW]at h;have:=h.1;intro e;simp_all);refine iA.node hk ho (af _) λx W=>?_;have hc:x.closed b=true:=(by cases t;rw[G.closed,G.JZ,aW]at h;simp_all);have:=G.Dr W;exact(ih x W (G.GL ho W) hc).le (by omega)
def zua{D:Z Decl}(HQ:L7 D)(t:Tp):iA 0 7 (jk 2 t D lI).2:=ao.zeJ HQ (λu hu=>by
 simp only[lI,ay,aU,or_false]at hu
 rcases hu with rfl|rfl<;>exact ao.zfG) 2 t (by decide)
def Form(d:Nat)(e:Xp):Prop:=e.wf=true/\e.depth<=d/\e.wide 100=true
theorem Form.mono{d d':Nat}{e:Xp}(h:Form d e)(hd:d<=d'):Form d' e:=⟨h.1,by have:=h.2.1;omega,h.2.2⟩
def F4{k p m:Int}{n:Z Nat}{t:G}{d:Nat}(h5:k≠5)(h4:k≠4)(h8:k≠8)(hd:1<=d):Form d (.mk k p n m [] [] t):=by
 refine⟨?_,?_,?_⟩;rw[Xp.zhi];simp[h5,h4,h8,Xp.zv,Am.zv];rw[Xp.iY];simp[Xp.lM,Am.lM];exact hd;rw[Xp.Eo];simp[Xp.nW,Am.nW]
def zpM{k p m:Int}{n:Z Nat}{a:Xp}{t:G}{d:Nat}(h5:k≠5)(ha:Form d a):Form (d+1) (.mk k p n m [a] [] t):=by
 let⟨M,O,h3⟩:=ha;refine⟨?_,?_,?_⟩;rw[Xp.zhi];simp[h5,Xp.zv,Am.zv,M];rw[Xp.iY];simp[Xp.lM,Am.lM];omega;rw[Xp.Eo];simp[Xp.nW,Am.nW,h3]
def zpL{k p m:Int}{n:Z Nat}{a b:Xp}{t:G}{d:Nat}(h4:k≠4)(h8:k≠8)(ha:Form d a)(hb:Form d b):Form (d+1) (.mk k p n m [a,b] [] t):=by
 let⟨M,O,h3⟩:=ha;let⟨g1,g2,g3⟩:=hb;refine⟨?_,?_,?_⟩;rw[Xp.zhi];simp[h4,h8,Xp.zv,Am.zv,M,g1];rw[Xp.iY];simp[Xp.lM,Am.lM];omega;rw[Xp.Eo];simp[Xp.nW,Am.nW,h3,g3]
def zlk{l:Z Am}{d:Nat}(h:∀ a∈l,Form d a.body):Am.zv l=true/\Am.lM l<=d/\Am.nW 100 l=true:=by
 induction l with
 |nil=>exact⟨rfl,aZ _,rfl⟩
 | cons a l ih =>
   let⟨M,O,h3⟩:=h a aB;let⟨i1,i2,i3⟩:=ih λx W=>h x (aD _ W);cases a;simp only[Am.EO]at M O h3;refine⟨?_,?_,?_⟩;rw[Am.zv,M,i1];rfl;rw[Am.lM];omega;rw[Am.nW,h3,i3];rfl
def zlj{x:Xp}{l:Z Am}{d:Nat}(W:Form d x)(hl:∀ a∈l,Form d a.body)(hn:l.length<=100):Form (d+1) (zM x l):=by
 let⟨M,O,h3⟩:=W;let⟨g1,g2,g3⟩:=zlk hl;refine⟨?_,?_,?_⟩;rw[Xp.zhi];simp[zM,Xp.zv,M,g1];rw[Xp.iY];simp[zM,Xp.lM];omega;rw[Xp.Eo];simp[zM,Xp.nW,h3,g3,hn]
def Form.fit {d:Nat} {e:Xp} (h:Form d e) (hd:d<=1000):e.fit 1000:=by
 refine⟨by have:=h.2.1;omega,by have:=h.2.1;omega,?_⟩
 have key:∀ (d:Nat) (e:Xp),e.depth<=d->e.wide 100=true->e.wide 100000=true:=by
  intro d
  induction d with
  |zero=>intro e h;rw[Xp.iY]at h;omega
  | succ d ih =>
    intro e hd hw;let⟨w1,w2,w3,w4⟩:=Xp.Dk hw
    have hk:∀ l:Z Xp,(∀ k∈l,k.wide 100000=true)->Xp.nW 100000 l=true:=by
     intro l
     induction l with
     |nil=>intro _;rfl
     |cons a l A1=>intro h;rw[Xp.nW,h a aB,A1 λx W=>h x (aD _ W)];rfl
    have ha:∀ l:Z Am,(∀ k∈l,k.body.wide 100000=true)->Am.nW 100000 l=true:=by
     intro l
     induction l with
     |nil=>intro _;rfl
     | cons a l A1 =>intro h;have M:=h a aB;cases a;simp only[Am.EO]at M;rw[Am.nW,M,A1 λx W=>h x (aD _ W)];rfl
    rw[Xp.Eo,hk _ λk hk=>ih k (by have:=Xp.lH hk;omega) (w3 k hk),ha _ λa ha=>ih a.body (by have:=Xp.vF ha;omega) (w4 a ha)];simp;omega
 exact key _ e (af _) h.2.2
end Go.J
