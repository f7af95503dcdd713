import Derived.Test.YtfloillkpbhhhaaGreatJK12
import Derived.Test.YtfloillkpbhhhaaGreatJK8
import Derived.Test.YtfloillkpbhhhaaGreatJK9
import Derived.Test.YtfloillkpbhhhaaGreatJK10
import Derived.Test.YtfloillkpbhhhaaGreatJK7
import Derived.Test.YtfloillkpbhhhaaGreatJK5
import Derived.ChangeShapes
import Derived.WideKeyArgs
import Derived.Below
import Derived.OpenShut
set_option linter.all false
noncomputable section
namespace Go.J
open bo (enc)
variable {f:FuncId}{a9:HS}{d g:Nat}{π:Nat->Nat}{I:Nat->Value}{α:Type}{v:V}{r:V×Z (Nat×Obj)}{b e x:Xp}{P Q:Xp->Prop}{N:Z (Z Nat)}{cT:Z (Z V)}{l:Z Am}{D:Z Decl}{ps:Z MemPlace}{n:Z Nat}{vs:Z V}{s:Z V->Y (V×Z (Nat×Obj))}
def Kl(e:Xp):Prop:=((dE e).1.kind=1\/(dE e).1.kind=2)/\(dE e).2.all iL=true/\(e.kind=1\/e.kind=2\/e.kind=5)
def Kl.shape(h:Kl e):iL e=true:=by
 let⟨M,O,h3⟩:=h;rw[zV];by_cases k:e.kind=1\/e.kind=2;rw[if_pos k];have k5:e.kind=5:=by omega
 rw[if_neg k,if_neg (by omega),if_neg (by omega),if_pos k5,O];simp[M]
def GZ{k p m:Int}{t:G}(h:k=1\/k=2):Kl (.mk k p n m [] [] t):=by
 have C:dE (.mk k p n m [] [] t)=(.mk k p n m [] [] t,[]):=rz (λh=>by have:=(Xp.xV.1 h).2;simp at this);unfold Kl;rw[C];exact⟨h,rfl,by show k=1\/k=2\/k=5;omega⟩
def zk9{f a:Xp}(hf:Kl f)(ha:iL a=true):Kl (Ue f a):=by
 have C2:(Ue f a).isApp=true:=rfl;have e1:(Ue f a).fn=f:=rfl;have e2:(Ue f a).arg=a:=rfl;unfold Kl;rw[uq C2,e1,e2];refine⟨hf.1,?_,.inr (.inr rfl)⟩;rw[List.all_append,hf.2.1];simp[ha]
def zjR(h:iL b=true):iL (Xd n b)=true:=by
 have e1:(Xd n b).fn=b:=rfl;rw[zV,if_neg (by simp[Xd]),if_pos (show (Xd n b).kind=4 from rfl),e1,h];rfl
def ze1(W:x.kind=1)(h:∀ a∈l,iL a.body=true):iL (zM x l)=true:=by
 have e1:(zM x l).fn=x:=rfl;have e2:(zM x l).b8=l:=rfl;rw[zV,if_neg (by simp[zM]),if_neg (by simp[zM]),if_pos (show (zM x l).kind=8 from rfl),e1,e2,au.2 h];simp[W,zM]
section
def Sr(ih:∀ (t:Tp) (N:Z (Z Nat)),P (gp d t D N).2)(t:Tp)(N:Z (Z Nat))(cs:Z Ctor)(i:Nat):∀ a∈(kI d t D N cs i).2,P a.body:=by
 induction i with
 |zero=>intro a ha;rw[kI]at ha;cases ha
 | succ i RE =>
   intro a ha;rw[kI]at ha;rcases bu.1 ha with ha|ha;exact RE a ha;rw[ag]at ha;subst ha;exact ih _ _
def zd7(ih:∀ (t:Tp) (N:Z (Z Nat)),iL (gp d t D N).2=true)(t:Tp)(N:Z (Z Nat))(he:Kl e)(i:Nat):Kl (lJ d t D N e i).2:=by
 induction i with
 |zero=>rw[lJ];exact he
 |succ i RE=>rw[lJ];exact zk9 RE (ih _ _)
def zgO{n:Nat}(ih:∀ (t:Tp) (N:Z (Z Nat)),Form n (gp d t D N).2)(hn:1<=n)(t:Tp)(N:Z (Z Nat))(he:Form n e)(i:Nat):Form (n+i) (lJ d t D N e i).2:=by
 induction i with
 |zero=>rw[lJ];exact he
 |succ i RE=>rw[lJ];exact zpL (by decide) (by decide) RE ((ih _ _).mono (fG _ _))
def Ky(d:Nat)(hv:∀ n,Q (zH n))(hc:∀ n,Q (SG n))(h0:∀ e,Q e->P e)(C:∀ d',d=d'+1->∀ t N e i,i<=2->Q e->P (lJ d' t D N e i).2)(t:Tp)(N:Z (Z Nat)):P (zP d t D N).2:=by
 rw[zP.eq_def];dsimp only;have M:Q (if N≠[]then ((t.next N.length).1,zH (mW [] N (t.next N.length).2))else (t,zH [120])).2:=by split<;>exact hv _
 generalize (if N≠[]then ((t.next N.length).1,zH (mW [] N (t.next N.length).2))else (t,zH [120]))=p at M;have O:Q (if D≠[]then (if (p.1.next 2).2=0 then ((((p.1.next 2).1.next D.length).1.next (mW zR D ((p.1.next 2).1.next D.length).2).ctors.length).1,SG (mW JU (mW zR D ((p.1.next 2).1.next D.length).2).ctors (((p.1.next 2).1.next D.length).1.next (mW zR D ((p.1.next 2).1.next D.length).2).ctors.length).2).name)else ((p.1.next 2).1,p.2))else p).2:=by split;split;exact hc _;exact M;exact M
 generalize (if D≠[]then (if (p.1.next 2).2=0 then ((((p.1.next 2).1.next D.length).1.next (mW zR D ((p.1.next 2).1.next D.length).2).ctors.length).1,SG (mW JU (mW zR D ((p.1.next 2).1.next D.length).2).ctors (((p.1.next 2).1.next D.length).1.next (mW zR D ((p.1.next 2).1.next D.length).2).ctors.length).2).name)else ((p.1.next 2).1,p.2))else p)=q at O
 cases d with
 |zero=>exact h0 _ O
 | succ d =>
   have a1:=yL q.1 3;have a2:=AV q.1 (n:=3) (by omega);exact C d rfl _ _ _ _ (by omega) O
def zbY:∀ (d:Nat) (t:Tp) (N:Z (Z Nat)),iL (gp d t D N).2=true:=by
 intro d
 induction d with
 | zero =>intro t N;rw[gp];exact Ky (Q:=Kl) (P:=λe=>iL e=true) 0 (λ_=>GZ (.inl rfl)) (λ_=>GZ (.inr rfl)) (λ_ h=>h.shape) (λd' h=>by omega) _ _
 | succ d ih =>
   intro t N;rw[gp];dsimp only;split;exact zjR (ih _ _);split;exact ze1 rfl (Sr (P:=λe=>iL e=true) ih _ _ _ _);exact Ky (Q:=Kl) (P:=λe=>iL e=true) (d+1) (λ_=>GZ (.inl rfl)) (λ_=>GZ (.inr rfl)) (λ_ h=>h.shape) (λd' h t N e i _ he=>by cases h;exact(zd7 ih t N he i).shape) _ _
def Mh (hD:Se D):∀ (d:Nat) (t:Tp) (N:Z (Z Nat)),Form (2*d+1) (gp d t D N).2:=by
 intro d
 induction d with
 | zero =>intro t N;rw[gp];exact Ky (Q:=Form 1) (P:=Form 1) 0 (λ_=>F4 (by decide) (by decide) (by decide) (af _)) (λ_=>F4 (by decide) (by decide) (by decide) (af _)) (λ_ h=>h) (λd' h=>by omega) _ _
 | succ d ih =>
   intro t N;rw[gp];dsimp only;split;exact(zpM (by decide) (ih _ _)).mono (by omega);split;rename_i cg;refine(zlj (d:=2*d+1) (F4 (by decide) (by decide) (by decide) (by omega)) (Sr (P:=Form (2*d+1)) ih _ _ _ _) ?_).mono (by omega);have M:=yL (t.next 8).1 D.length;have O:=AV (t.next 8).1 (n:=(D.length:Int)) (by have:=bR.2 cg.2.1;omega);let⟨j,hj⟩:=bE M;rw[hj];have ju:j<D.length:=(by omega);have e:mW zR D (j:Int)=D[j]:=(by unfold mW;rw[bO,az ju];rfl);rw[e]
   have hl:∀ (t:Tp) (cs:Z Ctor) (i:Nat),(kI d t D N cs i).2.length=i:=by
    intro t cs i
    induction i with
    |zero=>rw[kI];rfl
    |succ i ih=>rw[kI];simp[ih]
   rw[hl];exact(hD.2 _ (ax ju)).2.1;exact Ky (Q:=Form (2*d+1)) (P:=Form (2*(d+1)+1)) (d+1) (λ_=>F4 (by decide) (by decide) (by decide) (by omega)) (λ_=>F4 (by decide) (by decide) (by decide) (by omega)) (λ_ h=>h.mono (by omega)) (λd' h t N e i hi he=>by cases h;exact(zgO ih (by omega) t N he i).mono (by omega)) _ _
end
theorem UW{z:α}{l:Z α}(h:l≠[])(t:Tp):mW z l (t.next (l.length:Int)).2∈l:=by
 let⟨j,hj,M,O⟩:=Dz t h;unfold mW;grind
theorem MR(hD:∀ dd∈D,dd.ctors≠[])(d:Nat)(hv:∀ n,n∈N\/n=[120]->Q (zH n))(hc:∀ dd∈D,∀ c∈dd.ctors,Q (SG c.name))(h0:∀ e,Q e->P e)(C:∀ d',d=d'+1->∀ t e i,i<=2->Q e->P (lJ d' t D N e i).2)(t:Tp):P (zP d t D N).2:=by
 rw[zP.eq_def];dsimp only;have M:Q (if N≠[]then ((t.next N.length).1,zH (mW [] N (t.next N.length).2))else (t,zH [120])).2:=by grind [UW]
 generalize (if N≠[]then ((t.next N.length).1,zH (mW [] N (t.next N.length).2))else (t,zH [120]))=p at M;have O:Q (if D≠[]then (if (p.1.next 2).2=0 then ((((p.1.next 2).1.next D.length).1.next (mW zR D ((p.1.next 2).1.next D.length).2).ctors.length).1,SG (mW JU (mW zR D ((p.1.next 2).1.next D.length).2).ctors (((p.1.next 2).1.next D.length).1.next (mW zR D ((p.1.next 2).1.next D.length).2).ctors.length).2).name)else ((p.1.next 2).1,p.2))else p).2:=by grind [UW,zR]
 generalize (if D≠[]then (if (p.1.next 2).2=0 then ((((p.1.next 2).1.next D.length).1.next (mW zR D ((p.1.next 2).1.next D.length).2).ctors.length).1,SG (mW JU (mW zR D ((p.1.next 2).1.next D.length).2).ctors (((p.1.next 2).1.next D.length).1.next (mW zR D ((p.1.next 2).1.next D.length).2).ctors.length).2).name)else ((p.1.next 2).1,p.2))else p)=q at O
 cases d with
 |zero=>exact h0 _ O
 | succ d =>
   have a1:=yL q.1 3;have a2:=AV q.1 (n:=3) (by omega);grind
def D9(d:Nat)(t:Tp)(D:Z Decl)(N:Z (Z Nat))(cs:Z Ctor)(i:Nat):(kI d t D N cs i).2.length=i:=by
 induction i with
 |zero=>rw[kI];rfl
 |succ i ih=>rw[kI];simp[ih]
def O3 (d:Nat) (t:Tp) (D:Z Decl) (N:Z (Z Nat)) (cs:Z Ctor):∀ (i j:Nat) (a:Am),(kI d t D N cs i).2[j]?=some a->∃ t',a=.mk 0 ((cs[j]?).getD JU).name (j6 ((cs[j]?).getD JU).fields.length) (gp d t' D (N++j6 ((cs[j]?).getD JU).fields.length)).2
 | 0,j,a,h=>by rw[kI]at h;cases h
 | i + 1,j,a,h=>by
   rw[kI]at h;by_cases hj:j<i;rw[jY (by rw[D9];exact hj)]at h;exact O3 d t D N cs i j a h;rw[eU (by rw[D9];omega),D9]at h
   have:j-i=0:=by
    cases hh:j-i with
    |zero=>rfl
    |succ k=>rw[hh]at h;cases h
   rw[this]at h;cases h;have:j=i:=(by omega);subst this;exact⟨_,rfl⟩
theorem PN(d:Nat)(t:Tp)(N:Z (Z Nat))(hl:∀ d' t',d=d'+1->P (Xd [119] (gp d' t' D (N++[[119]])).2))(hc:∀ d' t',d=d'+1->N≠[]->∀ dd∈D,∀ n∈N,P (zM (zH n) (kI d' t' D N dd.ctors dd.ctors.length).2))(hh:∀ t',P (zP d t' D N).2):P (gp d t D N).2:=by
 cases d with
 |zero=>rw[gp];exact hh _
 | succ d =>
   grind [gp,UW]
theorem zov [DecidableEq α]:∀ {l m:Z α},l.Nodup->(∀ x∈l,x∈m)->l.length<=m.length:=by
 intro l
 induction l with
 |nil=>intro m _ _;exact aZ _
 | cons a l ih =>
   intro m h hm;rw[gK]at h;have ha:=hm a (aB ..);have:=ih (m:=m.erase a) h.2 λx W=>(by grind);grind
theorem zbL(t:G):t.valid=true->t.ok=true:=by
 induction t using G.ind with
 | h t ih =>
   intro hv;have ha:=G.Md hv;refine G.qH.2 ⟨?_,λu hu=>ih u hu (ha u hu)⟩;cases t;unfold G.valid at hv;simp only[G.iT];grind
def FU(vs:Z V)(r:V×Z (Nat×Obj)):EmbD where
 k:=0
 k':=dB r.2
 π:=λi=>i
 OL:=[]
 cJ:=r.2
 eb:=vs
 v0:=r.1
def IB(s:Z V->Y (V×Z (Nat×Obj))):Spec:=λvs C=>ob (kK vs C) λq=>gd (et (bX q.1) (et (gW q.2 q.2.n) (gW q.2 (q.2.n+1)))) (ob (s (fF q.1)) λr=>gd (Nat.ble (dB r.2) 2) (some ((FU [] r).val q.2,(FU [] r).heap q.2)))
def Valid.new  {P:Program} {f:Nat}  (hf:vM P f) (h:∀ vs r,bX vs=true->s vs=some r->∀ C:HS,(∀ i,i<r.2.length->C.H.get (C.n+i)=none)->aS I P f vs C ((FU vs r).val C) ((FU vs r).heap C)):Valid I P f (IB s) where
 fn:=hf
 ok := by
  intro vs C v a9 hq;simp only[IB,bI,aC,dz,gM,dH]at hq;let⟨⟨ij,cp⟩,hp,⟨DR,rm,od⟩,r,hr,hl,hq⟩:=hq;cases hq;rw[aK]at rm od;intro X w F μ xs hR hD hO hA;let⟨F',k1,k2,k3,k4,k5⟩:=zZ (xs:=xs.toList) hp hR (λi u hi=>by simpa using hA.2 i u hi)
  have hc:=(h _ _ (y7 DR) hr cp (λi hi=>by
   rcases(show i=0\/i=1 by omega)with rfl|rfl;exact rm
   exact od)).norm DR
  refine(hc X w F' μ xs k1 (k2.cx k3.le hD) hO ⟨by rw[k4];exact hA.1,λi u hi=>?_⟩).mono λe w' he=>?_;let⟨x,W,hr⟩:=k5 i u hi;exact⟨x,by simpa using W,.pure hr⟩
  cases e with
  | returned x =>let⟨F2,μ2,g1,g2,g3⟩:=he;exact⟨F2,μ2,g1,g2,k2.trans g3⟩
  |panicked c=>exact he
  |outgrown=>exact he
 kept:=by
  intro vs C q hq;simp only[IB,bI,aC,dz]at hq;let⟨⟨ij,cp⟩,hp,_,r,_,_,hq⟩:=hq;cases hq;exact(uY hp).trans YJ
section
variable {C:HS}{K:V×HS->Prop}
@[simp] def zIv:BO (IB s vs C) K=BO (kK vs C) λq=>(bX q.1=true/\q.2.H.get q.2.n=none/\q.2.H.get (q.2.n+1)=none)/\BO (s (fF q.1)) λr=>dB r.2<=2/\K ((FU [] r).val q.2,(FU [] r).heap q.2):=by
  show ok (IB s vs C) K=ok (kK vs C) λq=>(bX q.1=true/\q.2.H.get q.2.n=none/\q.2.H.get (q.2.n+1)=none)/\ok (s (fF q.1)) λr=>dB r.2<=2/\K ((FU [] r).val q.2,(FU [] r).heap q.2);simp only[IB,vO,iM,dL,dz,aK,gM]
def Xs(sz g:Nat)(es:Z (Z V)):V×Z (Nat×Obj):=(.own 0 g 0 es.length none,[(0,.arr sz g es false false true)])
def FT(hp:bX vs=true)(M:r.2.map Prod.fst=List.range r.2.length)(O:∀ p∈r.2,p.2.in (cx r.2)=true/\p.2.fz=false)(h3:r.1.sS (cx r.2)=true):(FU vs r).Good :=
 ⟨rfl,by show r.2.map Prod.fst=List.range (dB r.2);rw[dH];exact M,aZ _,(λp hp=>by cases hp),O,h3,λv hv=>V.dU (jo hp v hv)⟩
def Yc(hp:bX vs=true)(hv:∀ i,i<r.2.length->C.H.get (C.n+i)=none):(FU vs r).Fits vs C :=
 ⟨map_id' λv hv=>V.jq (V.dU (jo hp v hv)),λi j hi=>(by cases hi),(λp hp=>by cases hp),λi hi=>hv i (by rw[<- dH];exact hi),λi hi=>(by cases hi)⟩
@[simp] def zLc {n i:Nat}:news n 0 (λi=>i) i=n+i:=(rfl)
@[simp] def zLa :(FU vs r).val C=r.1.cw (news C.n 0 λi=>i):=(rfl)
@[simp] def zIu :(FU vs (v,[])).heap C=C:=(rfl)
def zah{sz:Nat}{es:Z (Z V)}(h:(es.all λe=>e.all V.bN)=true):(Obj.arr sz g es false false true).cw π=.arr sz g es false false true:=by
 show Obj.arr sz g (es.map λe=>e.map (V.jr π)) false false true=_;rw[AY λe he v hv=>V.jF (au.1 (au.1 h e he) v hv)]
@[simp] def zIt  {sz:Nat} {es:Z (Z V)} (h:(es.all λe=>e.all V.bN)=true):(FU vs (v,[(0,.arr sz g es false false true)])).heap C={ H:=C.H.set C.n (.arr sz g es false false true),n:=C.n+1,log:=C.n::C.log }:=by
  show ({ H:=C.H.set (C.n+0) ((Obj.arr sz g es false false true).cw _),n:=C.n+1,log:=(C.n+0)::C.log }:HS)=_;rw[zah h];rfl
@[simp] def zIs  {sz zKG g':Nat} {es:Z (Z V)} (h:(es.all λe=>e.all V.bN)=true) (h':(cT.all λe=>e.all V.bN)=true):(FU vs (v,[(0,.arr sz g es false false true),(1,.arr zKG g' cT false false true)])).heap C={ H:=(C.H.set (C.n+1) (.arr zKG g' cT false false true)).set C.n (.arr sz g es false false true),n:=C.n+2,log:=C.n::(C.n+1)::C.log }:=by
  show ({ H:=(C.H.set (C.n+1) ((Obj.arr zKG g' cT false false true).cw _)).set (C.n+0) ((Obj.arr sz g es false false true).cw _),n:=C.n+2,log:=(C.n+0)::(C.n+1)::C.log }:HS)=_;rw[zah h,zah h'];rfl
end
section
variable {H:Type}{enc:TypeId×Value->H}{P:Program}
theorem zkb {w:World} {base:Nat} {sp:Nat->Bool} {held:Bool} {t e:TypeId} {v:Value} {d:DataW H}  (ht:P.underlying t=some (.slice e)) (he:P.underlying e=some (.int .i64)) (hp:zfi P [t,e]=true)
 (hv:v.cells.toList=[v]) (h:DataW.Trod enc P w base sp held t v d ps):∃ l:Z Int,l.length<=maxLen/\(∀ n∈l,(Lit.int .i64 n).wf=true)/\P4 I w (bo.enc l) v:=by
 let⟨fuel,hf⟩:=h;rw[hv]at hf;let⟨vs,M,O,h3⟩:=UM I hp fuel t _ _ (aB ..) hf
 cases fuel with
 |zero=>exact M.elim
 | succ n =>
   unfold VT at M;rw[ht]at M;rcases M with rfl|⟨es,rfl,hl,fY⟩;let⟨c,hc,hv⟩:=O.2 0 _ rfl;cases hc;exact⟨[],aZ _,(λn hn=>by cases hn),hv.norm⟩;let⟨c,hc,hv⟩:=O.2 0 _ rfl;cases hc
   have key:∀ es:Z (Z V),(∀ c∈es,VT P n e c)->∃ l:Z Int,es=l.map (λn=>[V.int .i64 n])/\∀ n∈l,(Lit.int .i64 n).wf=true:=by
    intro es
    induction es with
    |nil=>exactλ_=>⟨[],rfl,λn hn=>by cases hn⟩
    | cons c es ih =>
      intro h;obtain⟨l,rfl,hw⟩:=ih λc hc=>h c (aD _ hc);have hc:=h c (aB ..)
      cases n with
      |zero=>exact hc.elim
      | succ n =>unfold VT at hc;rw[he]at hc;obtain⟨m,rfl,hm⟩:=hc;refine⟨m::l,rfl,λk hk=>?_⟩;grind
   obtain⟨l,rfl,hw⟩:=key es fY;exact⟨l,by rw[aN]at hl;exact hl,hw,hv⟩
theorem zlU(h:aS I P f vs jv (.bool true) a9){w:World}{xs:Array Value}
 (hlen:xs.size=vs.length) (hA:∀ (i:Nat) (v:V),vs[i]?=some v->∃ x,xs[i]?=some x/\P4 I w v x)
 (hg:Gl I w (λb=>b<w.heap.size):=by exactλv hv=>absurd rfl hv) :
 Calls P f xs w λe w'=>e=.returned (.bool true)/\RowKit.Below w.heap.size w w':=by
 refine callsIn_wide.1 (CallsIn.mono (n:=0) (h (λ_=>False) w (λb=>b<w.heap.size) (λ_ _=>none) xs (R.empty (λ_ h=>h) hg) Py.empty (pP.no _) ⟨hlen,λi u hi=>?_⟩) λe w' he=>?_);let⟨x,W,hr⟩:=hA i u hi;exact⟨x,W,.pure hr⟩
 cases e with
 | returned x =>
   let⟨F1,μ1,g1,g2,g3⟩:=he;refine⟨?_,⟨g3.io.1,g3.io.2.1,g3.io.2.2,g3.size,λb hb=>g3.bw b hb (uw b _)⟩⟩
   cases g2 with
   |pure h=>cases h;rfl
 |panicked c=>exact he.elim
 |outgrown=>exact he.elim
theorem zgN(hl:laidOutB P=true){er W':World}(hb:RowKit.Below er.heap.size er W'){sp:Nat->Bool}:∀ {ts:Z TypeId} {vs:Z Value} {ds:Z (DataW H)} {ps:Z MemPlace},(∀ t∈ts,P.readableRec t=true/\t<P.types.size) ->
 DataW.TrodAll enc P er 0 (λ_=>true) true ts vs ds ps->(∀ p∈ps,p.block<er.heap.size)->(∀ p∈ps,sp p.block=true)->DataW.TrodAll enc P W' 0 sp true ts vs ds ps:=by
 intro ts
 induction ts with
 |nil=>intro vs ds ps _ h _ _;cases vs<;>cases ds<;>exact h
 | cons t ts ih =>
   intro vs ds ps ht h cG tG;obtain⟨v,ij,d,ds',p,q,rfl,rfl,rfl,M,O⟩:=ChangeShapes.trodAll_cons h;let⟨r1,r2⟩:=ht t (aB ..)
   exact⟨p,q,WideElems.Trod_stays hl r1 r2 M (λx W=>hb.same (cG x (bu.2 (.inl W)))) (λx W=>tG x (bu.2 (.inl W))),
    ih (λt ht'=>ht t (aD _ ht')) O (λx W=>cG x (bu.2 (.inr W))) (λx W=>tG x (bu.2 (.inr W))),rfl⟩
end
end Go.J
