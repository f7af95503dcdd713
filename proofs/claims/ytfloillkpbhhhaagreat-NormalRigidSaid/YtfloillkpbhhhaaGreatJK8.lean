import Derived.Test.YtfloillkpbhhhaaGreatJK7
set_option linter.all false
noncomputable section
namespace Go.J
open bo (enc)
variable {ps:Array Tmp}{ts:Array TypeId}{t tg y:Bool}{K:Bool->HS->Prop}{E:Env}{Q:Ex->PT V->HS->Prop}{C:HS}{m n x4:Int}{P:Int->Prop}{L bx d f g i k cG o:Nat}{A:Nat->Bool}{π:Nat->Nat}{I:Nat->Value}{p:Nat×Obj}{q:Nat×Z (Z V)}{H H0:PT Obj}{JJ:PT Obj->Nat->Prop}{T T1:PT V}{x:Slot}{α:Type}{v:V}{K':V->HS->Prop}{HL OL cI l:Z (Nat×Obj)}{TL:Z (Nat×V)}{b x2 x3 x5 x6:Z (Z V)}{r:Z (Z V)×Z V}{x1 cL:Z Nat}{a c vs dq:Z V}{s:vm}
def J1(id:Nat)(es:Z (Z V)):V:=.own id 0 0 es.length (some es.length)
def KJ(sz:Nat)(es:Z (Z V)):Obj:=.arr sz 0 es true false true
def zr6(sz m id n:Nat)(o:Obj):Y (Nat×Z (Z V)) :=
 match o with
 |.arr s 0 es true false true=>gd (et (Nat.beq s sz) (et (Nat.beq n (dA es)) (et (Nat.blt id m) (es.all λe=>e.all V.bM)))) (some (id,es))
 |_=>none
def zjw(sz:Nat)(C:HS)(v:V):Y (Nat×Z (Z V)) :=
 match v with
 |.own id 0 0 n (some m)=>gd (Nat.beq n m) (W (C.H.get id) λo=>zr6 sz C.n id n o)
 |_=>none
def znA{sz:Nat}(h:zjw sz C v=some q):v=J1 q.1 q.2/\C.H.get q.1=some (KJ sz q.2)/\q.1<C.n/\(q.2.all λe=>e.all V.bM)=true:=by
 unfold zjw at h;split at h
 . rename_i id n m;simp only[bE,aA,beq_true]at h;obtain⟨rfl,o,ho,h⟩:=h;unfold zr6 at h;split at h
   . rename_i s es;simp only[bE,dx,beq_true,gz]at h;obtain⟨⟨rfl,h4,h5,h6⟩,h⟩:=h;cases h;rw[dI]at h4;subst h4;exact⟨rfl,ho,h5,h6⟩
   . cases h
 . cases h
def Cp (p sz:Nat) (F:Z (Z V)->Z V->Y (Z (Z V)×V)):Spec:=λvs C =>
 W (vQ vs p) λv=>W (zjw sz C v) λq=>gd (cu (vs.eraseIdx p)) (W (F q.2 (vs.eraseIdx p)) λr =>
  gd (et (r.1.all λe=>e.all V.bM) (et (r.2.tJ λ_=>false) (Nat.beq (dA r.1) (dA q.2)))) (some (r.2,C.wr q.1 (KJ sz r.1))))
section
variable {f:FuncId}{fn:Func}{sc:SC}{pre post:Z V}{r:V}{es cU:Z (Z V)}{sz:Nat}
def zg0(h:(es.all λe=>e.all V.bM)=true):(KJ sz es).cq π=KJ sz es:=by
 show Obj.arr _ _ (es.map λe=>e.map (V.jl π)) _ _ _=_;rw[Cc λx hx v hv=>V.jP (aj.1 (aj.1 h x hx) v hv)];rfl
def znB(h:(es.all λe=>e.all V.bM)=true):(KJ sz es).in A=true:=by
 exact h
theorem zwW (hρ:Good I) (aq:bH I E) (hP:E.P.follows .mixedOrders=true) (hN:vK E.P) (hf:E.P.funcs[f]?=some fn) (hb:fn.body.bind aU=some sc) (he:jE fn.ntmps (pre++J1 0 es::post) 0 .leaf=some T) (hp:cu (pre++post)=true)
 (hc:(es.all λe=>e.all V.bM)=true) (vf:(cU.all λe=>e.all V.bM)=true) (hl:cU.length=es.length) (hr:r.tJ (λ_=>false)=true)
 (h:Wp I E 1 fn.ntmps sc T { H:=dW [(0,KJ sz es)],n:=1,log:=[] } (Leaves E.P fn (aH 1 r [(0,KJ sz cU)])))  {id:Nat} (hid:id<C.n) (hg:C.H.get id=some (KJ sz es)) :
 aT I E.P f (pre++J1 id es::post) C r (C.wr id (KJ sz cU)):=by
 have rn:=jM hp;have M:∀ v∈pre,v.pure=true:=λv hv=>rn v (jo _ hv)
 have O:∀ v∈post,v.pure=true:=λv hv=>rn v (l9 _ hv)
 have key:=GA (k:=1) (k':=1) (OL:=[(0,KJ sz es)]) (cI:=[(0,KJ sz cU)]) (v0:=r) (dq:=pre++J1 0 es::post) hf hb he (DF hρ aq hP hN h) rfl rfl (af _)
  (λp hp=>by simp only[ay]at hp;subst hp;exact znB hc)
  (λp hp=>by simp only[ay]at hp;subst hp;exact⟨znB vf,rfl⟩)
  (V.AO (λ_ h=>by cases h) hr)
  (λv hv=>by
    rcases bA.1 hv with hv|hv
    . exact V.dU (M v hv)
    . rcases aB.1 hv with rfl|hv
      . rfl
      . exact V.dU (O v hv))
  (C:=C) (π:=λ_=>id) (λi j hi hj _=>by omega) (λp hp=>by simp only[ay]at hp;subst hp;rw[zg0 hc];exact hg) (λi hi=>absurd hi (by omega)) (λ_ _=>hid)
 rw[V.jw hr]at key
 have e1:(pre++J1 0 es::post).map (V.cq λ_=>id)=pre++J1 id es::post:=by
  rw[dz,aR,map_id' λv hv=>V.jw (V.dU (M v hv)),map_id' λv hv=>V.jw (V.dU (O v hv))];rfl
 rw[e1]at key
 have e2:Dn C 1 1 (λ_=>id) [(0,KJ sz cU)]=C.wr id (KJ sz cU):=by
  show ({ H:=(C.H.set (news C.n 1 (λ_=>id) 0) ((KJ sz cU).cq _)),n:=C.n+0,log:=[news C.n 1 (λ_=>id) 0]++C.log }:HS)=_;rw[zg0 vf];rfl
 grind
end
def zmB{p:Nat}(h:vs[p]?=some v):∃ pre post,vs=pre++v::post/\vs.eraseIdx p=pre++post/\pre.length=p:=by
 have hl:p<vs.length:=(aM.1 h).1;refine⟨vs.take p,vs.drop (p+1),?_,List.eraseIdx_eq_take_drop_succ ..,by rw[eB];omega⟩;have e:vs[p]=v:=(aM.1 h).2;rw[<- e];simp
def Valid.mt{P:Program}{p sz:Nat}{F:Z (Z V)->Z V->Y (Z (Z V)×V)}(hf:wh P f)
 (h:∀ es pre post r,pre.length=p->cu (pre++post)=true->(es.all λe=>e.all V.bM)=true->F es (pre++post)=some r->(r.1.all λe=>e.all V.bM)=true->r.2.tJ (λ_=>false)=true->r.1.length=es.length ->
   ∀ (C:HS) (id:Nat),id<C.n->C.H.get id=some (KJ sz es)->aT I P f (pre++J1 id es::post) C r.2 (C.wr id (KJ sz r.1))):Valid I P f (Cp p sz F) where
 fn:=hf
 ok:=by
  intro vs C v a8 hq;simp only[Cp,bE,aA,dx,sI,beq_true,dI]at hq;obtain⟨v0,ov,q,K1,Hd,r,hr,⟨k1,k2,k3⟩,hq⟩:=hq;cases hq;obtain⟨rfl,g1,g2,g3⟩:=znA K1;obtain⟨pre,post,e1,e2,e3⟩:=zmB ov;rw[e2]at Hd hr;rw[e1];exact h _ _ _ _ e3 Hd g3 hr k1 k2 k3 C _ g2 g1
 kept:=by
  intro vs C q hq;simp only[Cp,bE,aA]at hq;obtain⟨v0,ov,q,K1,_,r,hr,_,hq⟩:=hq;cases hq;exact oM ..
section
variable {p sz:Nat}{F:Z (Z V)->Z V->Y (Z (Z V)×V)}{Q:V×HS->Prop}
@[simp] def zJb:Cu (Cp p sz F vs C) Q=Cu (vQ vs p) λv=>Cu (zjw sz C v) λq=>cu (vs.eraseIdx p)=true/\Cu (F q.2 (vs.eraseIdx p)) λr =>
 ((r.1.all λe=>e.all V.bM)=true/\r.2.tJ (λ_=>false)=true/\r.1.length=q.2.length)/\Q (r.2,C.wr q.1 (KJ sz r.1)):=by
  show ok (Cp p sz F vs C) Q=ok (vQ vs p) λv=>ok (zjw sz C v) λq=>cu (vs.eraseIdx p)=true/\ok (F q.2 (vs.eraseIdx p)) λr =>
   ((r.1.all λe=>e.all V.bM)=true/\r.2.tJ (λ_=>false)=true/\r.1.length=q.2.length)/\Q (r.2,C.wr q.1 (KJ sz r.1))
  simp only[Cp,wz,iQ,dP,dx,beq_true,dI]
@[simp] def zDo {n m:Nat}:zjw sz C (.own i 0 0 n (some m))=gd (Nat.beq n m) (W (C.H.get i) λo=>zr6 sz C.n i n o):=(rfl)
@[simp] def zJf {m n s:Nat} {es:Z (Z V)}:zr6 sz m i n (.arr s 0 es true false true)=gd (et (Nat.beq s sz) (et (Nat.beq n (dA es)) (et (Nat.blt i m) (es.all λe=>e.all V.bM)))) (some (i,es)):=(rfl)
end
structure EmbD where
 k:Nat
 k':Nat
 π:Nat->Nat
 OL:List (Nat×Obj)
 cI:List (Nat×Obj)
 dq:List V
 v0:V
structure EmbD.Fits(D:EmbD)(vs:List V)(C:HS):Prop where
 args:D.dq.map (V.cq D.π)=vs
 inj:∀ i j,i<D.k->j<D.k->D.π i=D.π j->i=j
 obj:∀ p∈D.OL,C.H.get (D.π p.1)=some (p.2.cq D.π)
 zBH:∀ i,i<D.k'-D.k->C.H.get (C.n+i)=none
 lt:∀ i,i<D.k->D.π i<C.n
structure EmbD.Good(D:EmbD):Prop where
 ol:D.OL.map Prod.fst=List.range D.k
 zCW:D.cI.map Prod.fst=List.range D.k'
 le:D.k<=D.k'
 Mu:∀ p∈D.OL,p.2.in (cr D.OL)=true
 znU:∀ p∈D.cI,p.2.in (cr D.cI)=true/\p.2.fz=false
 v0:D.v0.tJ (cr D.cI)=true
 dq:∀ v∈D.dq,v.tJ (cr D.OL)=true
def sj(cJ:Z V->HS->Y EmbD):Spec:=λvs C=>W (cJ vs C) λD=>some (D.v0.cq (news C.n D.k D.π),Dn C D.k D.k' D.π D.cI)
theorem WT{id:Nat}(h:H.get id≠none):∀ l:Z (Nat×Obj),(xY H l).get id≠none:=by
 intro l
 induction l with
 |nil=>exact h
 | cons p l ih =>
   show ((xY H l).set p.1 p.2).get id≠none;rw[PT.cK]
   grind
def zkh{k':Nat}:Kept C (Dn C k k' π cI) where
 log i hi:=l9 _ hi
 obj i o ho hn:=by
  show (xY C.H _).get i=some o
  rw[IJ (λp hp e=>hn (by
   obtain⟨q,hq,rfl⟩:=aI.1 hp
   exact jo _ (aI.2 ⟨q,hq,e⟩)))]
  exact ho
 le:=fE ..
 hm i hi:=WT hi _
def zfb{f:FuncId}{fn:Func}{sc:SC}{D:EmbD}(hρ:J.Good I)(aq:bH I E)(hP:E.P.follows .mixedOrders=true)(hN:vK E.P)(hf:E.P.funcs[f]?=some fn)(hb:fn.body.bind aU=some sc)(he:jE fn.ntmps D.dq 0 .leaf=some T)
 (hg:D.Good) (h:Wp I E D.k fn.ntmps sc T { H:=dW D.OL,n:=D.k,log:=[] } (Leaves E.P fn (aH D.k D.v0 D.cI)))   (b4:D.Fits vs C) :
 aT I E.P f vs C (D.v0.cq (news C.n D.k D.π)) (Dn C D.k D.k' D.π D.cI):=by
 rw[<- b4.args];exact GA hf hb he (DF hρ aq hP hN h) hg.ol hg.zCW hg.le hg.Mu hg.znU hg.v0 hg.dq b4.inj b4.obj b4.zBH b4.lt
def Valid.DG{P:Program}{cJ:Z V->HS->Y EmbD}(hf:wh P f)(h:∀ vs C D,cJ vs C=some D->aT I P f vs C (D.v0.cq (news C.n D.k D.π)) (Dn C D.k D.k' D.π D.cI)):Valid I P f (sj cJ) where
 fn:=hf
 ok:=by
  intro vs C v a8 hq;simp only[sj,aA]at hq;obtain⟨D,hD,hq⟩:=hq;cases hq;exact h _ _ _ hD
 kept:=by
  intro vs C q hq;simp only[sj,aA]at hq;obtain⟨D,hD,hq⟩:=hq;cases hq;exact zkh
section
variable {cJ:Z V->HS->Y EmbD}{Q:V×HS->Prop}{k':Nat}
def EmbD.heap(D:EmbD)(C:HS):HS:=Dn C D.k D.k' D.π D.cI
def EmbD.val(D:EmbD)(C:HS):V:=D.v0.cq (news C.n D.k D.π)
@[simp] def zHA:Cu (sj cJ vs C) Q=Cu (cJ vs C) λD=>Q (D.val C,D.heap C):=by
  show ok (sj cJ vs C) Q=ok (cJ vs C) λD=>Q (D.v0.cq (news C.n D.k D.π),Dn C D.k D.k' D.π D.cI)
  simp only[sj,iQ,dP]
end
def J4(l:Z Int):((l.map cW).all λe=>e.all V.bM)=true:=zi8 l
def zC0{sz:Nat}{es:Z (Z V)}(h:(es.all λe=>e.all V.bM)=true):(oO sz es).in A=true:=h
section
variable {s:ao}{tv:V}{n id rd ro:Nat}{out c8:Z Int}{done done':Z Bool}{x:Int}
def uz{es:Z (Z V)}(h:(es.all λe=>e.all V.bM)=true):(es.map λe=>e.map (V.jl π))=es:=Cc λx hx v hv=>V.jP (aj.1 (aj.1 h x hx) v hv)
@[simp] def zzj {n:Nat} {c:Y Nat}:rC (.own i g o n c)=i:=(rfl)
@[simp] def zwr:rC .aE=0:=(rfl)
end
def vr:V->Y Nat
 |.ptr i _ _=>some i
 |.own i _ _ _ _=>some i
 |.map i=>some i
 |.ly i=>some i
 |_=>none
def E3(v u:V)(k:Nat)(z:Nat):Nat :=
 match vr v,vr u with
 |some i,some j=>bif Nat.beq i k then j else z
 |_,_=>z
def CC:Z V->Z V->Nat->Nat->Nat
 |v::vs,u::us,k,z=>E3 v u k (CC vs us k z)
 |_,_,_,z=>z
def E4(v u:V)(k z:Nat):Nat :=
 match v,u with
 |.agg a,.agg b=>CC a b k z
 |.func _ a,.func _ b=>CC a b k z
 |.tuple a,.tuple b=>CC a b k z
 |v,u=>E3 v u k z
def Hv(T:PT V):Z (Nat×V)->Nat->Nat->Nat
 | [],_,z=>z
 |p::l,k,z=>vP (Hv T l k z) (λu=>E4 p.2 u k (Hv T l k z)) (T.get p.1)
def zzw(o u:Obj)(k z:Nat):Nat :=
 match o,u with
 |.arr _ _ [e] _ _ false,.arr _ _ [e'] _ _ false=>CC e e' k z
 |_,_=>z
def L7(H:PT Obj)(π:Nat->Nat):Z (Nat×Obj)->Nat->Nat->Nat
 | [],_,z=>z
 |p::l,k,z=>vP (L7 H π l k z) (λu=>zzw p.2 u k (L7 H π l k z)) (H.get (π p.1))
def auto(n:Nat)(TL:Z (Nat×V))(HL:Z (Nat×Obj))(T:PT V)(H:PT Obj)(k:Nat):Nat :=
 bif Nat.blt k n then k else Hv T TL k (L7 H (λi=>bif Nat.blt i n then i else Hv T TL i i) HL k k)
@[simp] def zMr {es:Z (V×V)}:Obj.fz (.mp es)=false:=(rfl)
@[simp] def zwO:cd []=true:=(rfl)
@[simp] def zuD {x:Nat} {l:Z Nat}:cd (x::l)=(!(l.any (Nat.beq x))&&cd l):=(rfl)
@[simp] def zzQ (n:Nat):SP (n:Int)=some n:=(rfl)
section
variable {u:V}{us:Z V}{z j:Nat}
@[simp] def zG0 :vr (.ptr i g o)=some i:=(rfl)
@[simp] def zG1 {n:Nat} {c:Y Nat}:vr (.own i g o n c)=some i:=(rfl)
@[simp] def zG2:vr (.map i)=some i:=(rfl)
@[simp] def zG3 {t:IntKind} :vr (.int t n)=none:=(rfl)
@[simp] def zDQ {b:Bool}:vr (.bool b)=none:=(rfl)
@[simp] def zGZ {b:Z Nat}:vr (.str b)=none:=(rfl)
@[simp] def zJC  :vr (.sl b t)=none:=(rfl)
@[simp] def zDO:vr .aE=none:=(rfl)
@[simp] def zDP {f:FuncId} {l:Z V}:vr (.func f l)=none:=(rfl)
@[simp] def zI2 (h:vr v=some i) (h':vr u=some j):E3 v u k z=if i=k then j else z:=by
  unfold E3;rw[h,h'];simp only[]
  cases hb:Nat.beq i k with
  |true=>rw[beq_true]at hb;simp[hb]
  |false=>rw[if_neg (λe=>by rw[beq_true.2 e]at hb;cases hb)];rfl
@[simp] def zww (h:vr v=none):E3 v u k z=z:=by unfold E3;rw[h]
@[simp] def zI3 (h:vr u=none):E3 v u k z=z:=by unfold E3;rw[h];cases vr v<;>rfl
@[simp] def zrG:CC [] us k z=z:=by unfold CC;rfl
@[simp] def zm9:CC (v::vs) (u::us) k z=E3 v u k (CC vs us k z):=(rfl)
@[simp] def zCQ {f g:FuncId} {b:Z V}:E4 (.func f a) (.func g b) k z=CC a b k z:=(rfl)
@[simp] def zzx {b:Z V}:E4 (.tuple a) (.tuple b) k z=CC a b k z:=(rfl)
@[simp] def zGl :E4 (.ptr i g o) u k z=E3 (.ptr i g o) u k z:=(rfl)
@[simp] def zGm {n:Nat} {c:Y Nat}:E4 (.own i g o n c) u k z=E3 (.own i g o n c) u k z:=(rfl)
@[simp] def zGn {t:IntKind} :E4 (.int t n) u k z=z:=(rfl)
@[simp] def zCR {b:Bool}:E4 (.bool b) u k z=z:=(rfl)
@[simp] def zGk {b:Z Nat}:E4 (.str b) u k z=z:=(rfl)
@[simp] def zI1  :E4 (.sl b t) u k z=z:=(rfl)
@[simp] def zCP:E4 .aE u k z=z:=(rfl)
@[simp] def zGg :Hv T [] k z=z:=(rfl)
@[simp] def zCN  {p:Nat×V} {l:Z (Nat×V)}:Hv T (p::l) k z=vP (Hv T l k z) (λu=>E4 p.2 u k (Hv T l k z)) (T.get p.1):=(rfl)
@[simp] def OW {β:Type} {z:β} {f:α->β} {a:α}:vP z f (some a)=f a:=(rfl)
@[simp] def zGi {a b a' b':Nat} {e e':Z V} {x x' y':Bool}:zzw (.arr a b [e] x y false) (.arr a' b' [e'] x' y' false) k z=CC e e' k z:=(rfl)
@[simp] theorem zGh {a b:Nat} {es:Z (Z V)} {x:Bool} {o:Obj}:zzw (.arr a b es x y true) o k z=z:=by
  unfold zzw;split
  . simp_all
  . rfl
@[simp] def zGj  :L7 H π [] k z=z:=(rfl)
@[simp] def zCO    :L7 H π (p::l) k z=vP (L7 H π l k z) (λu=>zzw p.2 u k (L7 H π l k z)) (H.get (π p.1)):=(rfl)
@[simp] def zHS {n:Nat}    :auto n TL HL T H k=if k<n then k else Hv T TL k (L7 H (λi=>if i<n then i else Hv T TL i i) HL k k):=by
  have hb:∀ (i:Nat) (a b:Nat),(bif Nat.blt i n then a else b)=if i<n then a else b:=by
   intro i a b
   cases h:Nat.blt i n with
   |true=>rw[gz]at h;rw[if_pos h];rfl
   |false=>rw[if_neg (λe=>by rw[gz.2 e]at h;cases h)];rfl
  unfold auto;rw[hb];simp only[hb]
end
section
def aw.auto{n:Nat}(hT:∀ p∈TL,p.2.tJ (cr HL)=true/\T.get p.1=some (p.2.cq (J.auto k TL HL T C.H)):=by first|(simp;done)|(simp[-Int.natCast_add];done))
 (hH:∀ p∈HL,p.2.in (cr HL)=true/\C.H.get (J.auto k TL HL T C.H p.1)=some (p.2.cq (J.auto k TL HL T C.H)):=by simp) (hi:cd (HL.map λp=>J.auto k TL HL T C.H p.1)=true:=by first|rfl|(simp;done)) (hk:(List.range k).all (λi=>Nat.beq (J.auto k TL HL T C.H i) i&&cr HL i)=true:=by first|rfl|(simp;done)|(simp<;>(intro x hx;first|omega|exact⟨.inl hx,by omega⟩))) :
 aw k T C (dW TL) { H:=dW HL,n:=n,log:=[] }:=aw.lit _ n hT hH hi hk
end
@[simp] def zAh :(V.func f []).pure=true:=(rfl)
@[simp] def zxF  :kP C (V.func f [])=some (V.func f []):=(rfl)
@[simp] def zu6  :nI C (V.func f [])=C:=(rfl)
structure Scheme where
 count:Int
 type:G
 deriving DecidableEq
def FI(a:Scheme):Z V:=[.int .i64 a.count,.int .i64 a.type.kind,.str a.type.name,.int .i64 a.type.id,.int .i64 a.type.home,.sl (a.type.args.map au) false]
def J5(c:Z V):Y Scheme :=
 match c with
 | [.int .i64 x0,.int .i64 x1,.str x2,.int .i64 x3,.int .i64 x4,.sl x5 false]=>W (eT x5) λy5=>some ⟨x0,(G.mk x1 x2 x3 x4 y5)⟩
 |_=>none
def QJ{x0:Int}{x1:Int}{x2:Z Nat}{x3:Int}:J5 [.int .i64 x0,.int .i64 x1,.str x2,.int .i64 x3,.int .i64 x4,.sl x5 false]=W (eT x5) λy5=>some ⟨x0,(G.mk x1 x2 x3 x4 y5)⟩:=(rfl)
instance:iC Scheme where
 cells:=FI
 dec:=J5
 bZ a:=by simp only[FI,QJ,Eh,dY,G.eta]
 bq c a h:=by
  unfold J5 at h;split at h
  . simp only[aA]at h;obtain⟨y5,Mn,h⟩:=h;cases h;have Mn:=iT Mn
    subst_vars
    rfl
  . cases h
 bM a:=rfl
 norm a:=by simp only[FI,fI,gX,Eb]
instance:bo Scheme:=yJ
@[simp] def zxQ (a:Scheme):enc a=.agg (FI a):=(rfl)
@[simp] def zxU :bo.dec (α:=Scheme) (.agg c)=J5 c:=(rfl)
@[simp] def zxL (a:Scheme):Scheme.mk a.count a.type=a:=(rfl)
attribute [simp] QJ FI
structure Entry where
 name:List Nat
 scheme:Scheme
 deriving DecidableEq
def df(a:Entry):Z V:=[.str a.name,.int .i64 a.scheme.count,.int .i64 a.scheme.type.kind,.str a.scheme.type.name,.int .i64 a.scheme.type.id,.int .i64 a.scheme.type.home,.sl (a.scheme.type.args.map au) false]
def Ji(c:Z V):Y Entry :=
 match c with
 | [.str x0,.int .i64 x1,.int .i64 x2,.str x3,.int .i64 x4,.int .i64 x5,.sl x6 false]=>W (eT x6) λy6=>some ⟨x0,⟨x1,(G.mk x2 x3 x4 x5 y6)⟩⟩
 |_=>none
def U5{x0:Z Nat}{x1:Int}{x2:Int}{x3:Z Nat}{x5:Int}:Ji [.str x0,.int .i64 x1,.int .i64 x2,.str x3,.int .i64 x4,.int .i64 x5,.sl x6 false]=W (eT x6) λy6=>some ⟨x0,⟨x1,(G.mk x2 x3 x4 x5 y6)⟩⟩:=(rfl)
instance:iC Entry where
 cells:=df
 dec:=Ji
 bZ a:=by simp only[df,U5,Eh,dY,G.eta]
 bq c a h:=by
  unfold Ji at h;split at h
  . simp only[aA]at h;obtain⟨y6,zDT,h⟩:=h;cases h;have zDT:=iT zDT
    subst_vars
    rfl
  . cases h
 bM a:=rfl
 norm a:=by simp only[df,fI,gX,Eb]
instance:bo Entry:=yJ
@[simp] def zth:@iC.dec Entry _=Ji:=(rfl)
@[simp] def zAr (a:Entry):enc a=.agg (df a):=(rfl)
@[simp] def zAx :bo.dec (α:=Entry) (.agg c)=Ji c:=(rfl)
@[simp] def zxW (l:Z Entry):eT (l.map df)=some l:=qD l
@[simp] def zwL (l:Z Entry):gT (l.map df)=l.map df:=lU l
@[simp] def zby (l:Z Entry):((l.map df).all λe=>e.all V.bM)=true:=nS l
@[simp] def zxR (l:Z Entry):enc l=.sl (l.map df) false:=(rfl)
@[simp] def zxV {es:Z (Z V)}:bo.dec (α:=Z Entry) (.sl es false)=eT es:=(rfl)
@[simp] def zmk (l:Z Entry):bj 7 (l.map df)=true:=by rw[lI];intro e he;obtain⟨a,_,rfl⟩:=aI.1 he;rfl
@[simp] def zFl (l:Z Entry):kS (l.map df)=true:=Cn zby
@[simp] def zAm (a:Entry):Entry.mk a.name a.scheme=a:=(rfl)
attribute [simp] U5 df
structure Ctor where
 pos:Int
 name:List Nat
 fields:List G
 deriving DecidableEq
def iD(a:Ctor):Z V:=[.int .i64 a.pos,.str a.name,.sl (a.fields.map au) false]
def Sb(c:Z V):Y Ctor :=
 match c with
 | [.int .i64 x0,.str x1,.sl x2 false]=>W (eT x2) λy2=>some ⟨x0,x1,y2⟩
 |_=>none
def XI{x0:Int}:Sb [.int .i64 x0,.str x1,.sl x2 false]=W (eT x2) λy2=>some ⟨x0,x1,y2⟩:=(rfl)
instance:iC Ctor where
 cells:=iD
 dec:=Sb
 bZ a:=by simp only[iD,XI,Eh,dY,G.eta]
 bq c a h:=by
  unfold Sb at h;split at h
  . simp only[aA]at h;obtain⟨y2,Vc,h⟩:=h;cases h;have Vc:=iT Vc
    subst_vars
    rfl
  . cases h
 bM a:=rfl
 norm a:=by simp only[iD,fI,gX,Eb]
instance:bo Ctor:=yJ
@[simp] def zEL (a:Ctor):enc a=.agg (iD a):=(rfl)
@[simp] def zEU :bo.dec (α:=Ctor) (.agg c)=Sb c:=(rfl)
@[simp] def zkk (l:Z Ctor):eT (l.map iD)=some l:=qD l
@[simp] def zjq (l:Z Ctor):gT (l.map iD)=l.map iD:=lU l
@[simp] def zAq (l:Z Ctor):enc l=.sl (l.map iD) false:=(rfl)
@[simp] def zAw {es:Z (Z V)}:bo.dec (α:=Z Ctor) (.sl es false)=eT es:=(rfl)
@[simp] def zFM (l:Z Ctor):bj 3 (l.map iD)=true:=by rw[lI];intro e he;obtain⟨a,_,rfl⟩:=aI.1 he;rfl
attribute [simp] XI iD
structure Decl where
 pos:Int
 name:List Nat
 params:List (List Nat)
 ctors:List Ctor
 deriving DecidableEq
def aP(a:Decl):Z V:=[.int .i64 a.pos,.str a.name,.sl (a.params.map (cF)) false,.sl (a.ctors.map iD) false]
def Sa(c:Z V):Y Decl :=
 match c with
 | [.int .i64 x0,.str x1,.sl x2 false,.sl x3 false]=>W (eT x2) λy2=>W (eT x3) λy3=>some ⟨x0,x1,y2,y3⟩
 |_=>none
def XH{x0:Int}:Sa [.int .i64 x0,.str x1,.sl x2 false,.sl x3 false]=W (eT x2) λy2=>W (eT x3) λy3=>some ⟨x0,x1,y2,y3⟩:=(rfl)
instance:iC Decl where
 cells:=aP
 dec:=Sa
 bZ a:=by simp only[aP,XH,zkk,zcu,dY,G.eta]
 bq c a h:=by
  unfold Sa at h;split at h
  . simp only[aA]at h;obtain⟨y2,Vc,y3,hy3,h⟩:=h;cases h;have Vc:=iT Vc;have hy3:=iT hy3
    subst_vars
    rfl
  . cases h
 bM a:=rfl
 norm a:=by simp only[aP,fI,gX,zjq,zbD]
instance:bo Decl:=yJ
@[simp] def zEK (a:Decl):enc a=.agg (aP a):=(rfl)
@[simp] def zET :bo.dec (α:=Decl) (.agg c)=Sa c:=(rfl)
@[simp] def zAy (l:Z Decl):eT (l.map aP)=some l:=qD l
@[simp] def zzM (l:Z Decl):gT (l.map aP)=l.map aP:=lU l
@[simp] def zAp (l:Z Decl):enc l=.sl (l.map aP) false:=(rfl)
@[simp] def zAv {es:Z (Z V)}:bo.dec (α:=Z Decl) (.sl es false)=eT es:=(rfl)
@[simp] def zFL (l:Z Decl):bj 4 (l.map aP)=true:=by rw[lI];intro e he;obtain⟨a,_,rfl⟩:=aI.1 he;rfl
@[simp] def zEA (a:Decl):Decl.mk a.pos a.name a.params a.ctors=a:=(rfl)
attribute [simp] XH aP
def Y1(n m:Int):Int:=if m<1 then 0 else n % m
def zbL(n m:Int):0<=Y1 n m:=by
 unfold Y1;split
 . omega
 . exact Int.emod_nonneg _ (by omega)
def zr5(h:1<=m):Y1 n m<m:=by
 unfold Y1;rw[if_neg (by omega)];exact Int.emod_lt_of_pos _ (by omega)
def uM(n:Z Nat)(l:Z G):G:=.mk 4 n 0 0 l
def fq(i:Int):G:=.mk 1 [] i 0 []
def qU(i:Int):G:=.mk 2 [] i 0 []
def fD(h i:Int):G:=.mk 3 [] i h []
def Ik:G:=uM [73,110,116] []
def vO(a b:G):G:=uM [45,62] [a,b]
def zaE(n m:Int):n % m=n.tmod m % m:=by
 have h:=Int.mul_tdiv_add_tmod n m
 calc n % m=(m*n.tdiv m+n.tmod m) % m:=by rw[h]
  _=n.tmod m % m:=by rw[Int.add_comm,Int.add_mul_emod_self_left]
def tmod_neg(hm:1<=m)(h:n.tmod m<0):n % m=n.tmod m+m:=by
 have M:=Int.lt_tmod_of_pos n (show 0<m by omega);rw[zaE,<- Int.add_emod_right,Int.emod_eq_of_lt (by omega) (by omega)]
def zlY(hm:1<=m)(h:0<=n.tmod m):n % m=n.tmod m:=by
 rw[zaE,Int.emod_eq_of_lt h (Int.tmod_lt_of_pos n (by omega))]
def Tp.next(t:Tp)(n:Int):Tp×Int :=
 if t.l.length<=t.i then (t,0)else ({ t with i:=t.i+1 },Y1 (t.l.getD t.i.toNat 0) n)
def rA(n:Nat):Z G:=(List.range n).map λi=>fq (i:Nat)
def zdu(n:Nat):rA (n+1)=rA n++[fq (n:Nat)]:=by simp[rA,List.range_succ]
@[simp] def zyZ (n:Nat):(rA n).length=n:=by simp[rA]
def Kw:Z Decl:=[⟨0,[66,111,111,108],[],[⟨12,[84,114,117,101],[]⟩,⟨19,[70,97,108,115,101],[]⟩]⟩,
 ⟨26,[79,112,116,105,111,110],[[97]],[⟨42,[78,111,110,101],[]⟩,⟨49,[83,111,109,101],[.mk 5 [97] 0 0 []]⟩]⟩,
 ⟨57,[76,105,115,116],[[97]],[⟨71,[78,105,108],[]⟩,⟨77,[67,111,110,115],[.mk 5 [97] 0 0 [],.mk 4 [76,105,115,116] 0 0 [.mk 5 [97] 0 0 []]]⟩]⟩,
 ⟨93,[80,97,105,114],[[97],[98]],[⟨109,[80,97,105,114],[.mk 5 [97] 0 0 [],.mk 5 [98] 0 0 []]⟩]⟩,
 ⟨119,[78,97,116],[],[⟨130,[90,101,114,111],[]⟩,⟨137,[83,117,99,99],[.mk 4 [78,97,116] 0 0 []]⟩]⟩,
 ⟨147,[70,117,110],[[97],[98]],[⟨162,[70,117,110],[.mk 4 [45,62] 0 0 [.mk 5 [97] 0 0 [],.mk 5 [98] 0 0 []]]⟩]⟩,
 ⟨176,[84,119,111],[[97]],[⟨189,[66,111,116,104],[.mk 5 [97] 0 0 [],.mk 5 [97] 0 0 []]⟩,⟨200,[79,110,101],[.mk 4 [79,112,116,105,111,110] 0 0 [.mk 5 [97] 0 0 []]]⟩]⟩]
def zKY:V:=.sl [[.int .i64 0,.str [66,111,111,108],.aE,.sl [[.int .i64 12,.str [84,114,117,101],.aE],[.int .i64 19,.str [70,97,108,115,101],.aE]] false],[.int .i64 26,.str [79,112,116,105,111,110],.sl [[.str [97]]] false,.sl [[.int .i64 42,.str [78,111,110,101],.aE],[.int .i64 49,.str [83,111,109,101],.sl [[.int .i64 5,.str [97],.int .i64 0,.int .i64 0,.aE]] false]] false],[.int .i64 57,.str [76,105,115,116],.sl [[.str [97]]] false,.sl [[.int .i64 71,.str [78,105,108],.aE],[.int .i64 77,.str [67,111,110,115],.sl [[.int .i64 5,.str [97],.int .i64 0,.int .i64 0,.aE],[.int .i64 4,.str [76,105,115,116],.int .i64 0,.int .i64 0,.sl [[.int .i64 5,.str [97],.int .i64 0,.int .i64 0,.aE]] false]] false]] false],[.int .i64 93,.str [80,97,105,114],.sl [[.str [97]],[.str [98]]] false,.sl [[.int .i64 109,.str [80,97,105,114],.sl [[.int .i64 5,.str [97],.int .i64 0,.int .i64 0,.aE],[.int .i64 5,.str [98],.int .i64 0,.int .i64 0,.aE]] false]] false],[.int .i64 119,.str [78,97,116],.aE,.sl [[.int .i64 130,.str [90,101,114,111],.aE],[.int .i64 137,.str [83,117,99,99],.sl [[.int .i64 4,.str [78,97,116],.int .i64 0,.int .i64 0,.aE]] false]] false],[.int .i64 147,.str [70,117,110],.sl [[.str [97]],[.str [98]]] false,.sl [[.int .i64 162,.str [70,117,110],.sl [[.int .i64 4,.str [45,62],.int .i64 0,.int .i64 0,.sl [[.int .i64 5,.str [97],.int .i64 0,.int .i64 0,.aE],[.int .i64 5,.str [98],.int .i64 0,.int .i64 0,.aE]] false]] false]] false],[.int .i64 176,.str [84,119,111],.sl [[.str [97]]] false,.sl [[.int .i64 189,.str [66,111,116,104],.sl [[.int .i64 5,.str [97],.int .i64 0,.int .i64 0,.aE],[.int .i64 5,.str [97],.int .i64 0,.int .i64 0,.aE]] false],[.int .i64 200,.str [79,110,101],.sl [[.int .i64 4,.str [79,112,116,105,111,110],.int .i64 0,.int .i64 0,.sl [[.int .i64 5,.str [97],.int .i64 0,.int .i64 0,.aE]] false]] false]] false]] false
def Fq(bits:Int):Z Decl->Nat->Z Decl
 | [],_=>[]
 |d::l,i=>if i≠1/\ZU .i64 (bits.fdiv (2 ^ i)) 1=1 then d::Fq bits l (i+1)else Fq bits l (i+1)
def zgD(bits:Int)(l:Z Decl):Z Decl:=if ZU .i64 bits 2≠0\/ZU .i64 bits 64≠0 then (l[1]?).toList else []
def bu(bits:Int):Z Decl:=zgD bits Kw++Fq bits Kw 0
theorem zmP(bits:Int):∀ (l m:Z Decl) (i:Nat),Fq bits (l++m) i=Fq bits l i++Fq bits m (i+l.length):=by
 intro l
 induction l with
 |nil=>intro m i;simp[Fq]
 | cons d l ih =>
   grind [Fq]
theorem zmO{bits:Int}{d:Decl}:∀ {l:Z Decl} {i:Nat},d∈Fq bits l i->d∈l:=by
 intro l
 induction l with
 |nil=>intro i h;cases h
 | cons x l ih =>
   intro i h;unfold Fq at h
   grind
theorem zbd(bits:Int):∀ (l:Z Decl) (i:Nat),(Fq bits l i).length<=l.length:=by
 intro l
 induction l with
 |nil=>intro i;exact af _
 | cons x l ih =>
   grind [Fq,List.length_cons]
theorem ky{bits:Int}{d:Decl}(h:d∈bu bits):d∈Kw:=by
 grind [bu,zgD,List.mem_of_getElem?,zmO]
theorem QM(bits:Int):(bu bits).length<=8:=by
 unfold bu
 grind [List.length_append,zbd,Kw,zgD]
theorem LG(t:Tp)(n:Int):(t.next n).1.l=t.l:=by unfold Tp.next;split<;>rfl
def zwR{t:Tp}(h:0<=t.i)(n:Int):0<=(t.next n).1.i:=by
 unfold Tp.next;split
 . exact h
 . show 0<=t.i+1;omega
def Af(t:Tp)(n:Int):0<=(t.next n).2:=by
 unfold Tp.next;split
 . exact fA _
 . exact zbL _ _
def Cb(t:Tp)(h:1<=n):(t.next n).2<n:=by
 unfold Tp.next;split
 . omega
 . exact zr5 h
def Tp.ok(t:Tp):Prop:=0<=t.i/\t.l.length<=100000
theorem iw{t:Tp}(h:t.ok)(n:Int):(t.next n).1.ok:=⟨zwR h.1 n,by rw[LG];exact h.2⟩
theorem C8(t:Tp){l:Z α}(h:l≠[]):∃ (j:Nat) (hj:j<l.length),(t.next (l.length:Int)).2=(j:Int)/\l[(t.next (l.length:Int)).2.toNat]?=some l[j]:=by
 have M:=Af t (l.length:Int);have h0:0<l.length:=bT.2 h;have O:=Cb t (n:=(l.length:Int)) (by omega)
 grind
mutual
def jb : Nat->Tp->Z Decl->Z G->Tp×G
 | d, t, D,Lv =>
   let k:=(t.next 7).2
   let t1:=(t.next 7).1
   if k<3/\Lv≠[]then ((t1.next Lv.length).1,(Lv[(t1.next Lv.length).2.toNat]?).getD Ik)
   else if k<4 then (t1,Ik)
   else match d with
    | 0=>(t1,Ik)
    | d + 1 =>
      if (k=4\/k=5)/\D≠[]then
       let dd:=(D[(t1.next D.length).2.toNat]?).getD ⟨0,[],[],[]⟩
       let r:=qP d (t1.next D.length).1 D Lv dd.params.length
       (r.1,uM dd.name r.2)
      else
       let a:=jb d t1 D Lv
       let b:=jb d a.1 D Lv
       (b.1,vO a.2 b.2)
 termination_by d=>(d,0)
def qP(d:Nat)(t:Tp)(D:Z Decl)(Lv:Z G):Nat->Tp×Z G
 | 0=>(t,[])
 |n+1=>((jb d (qP d t D Lv n).1 D Lv).1,(qP d t D Lv n).2++[(jb d (qP d t D Lv n).1 D Lv).2])
 termination_by n=>(d,n+1)
end
def Ke(d:Nat)(t:Tp)(D:Z Decl)(Lv:Z G)(n:Nat):(qP d t D Lv n).2.length=n:=by
 induction n with
 |zero=>rw[qP];rfl
 |succ n ih=>rw[qP];simp[ih]
theorem Cs {P:G->Prop} {D:Z Decl} {Lv:Z G} (hl:∀ l∈Lv,P l) (hi:P Ik) (hc:∀ dd∈D,∀ l:Z G,l.length=dd.params.length->(∀ x∈l,P x)->P (uM dd.name l)) (ha:∀ a b,P a->P b->P (vO a b)) :
 ∀ (d:Nat) (t:Tp),P (jb d t D Lv).2:=by
 intro d
 induction d with
 | zero =>
   intro t;rw[jb]
   try dsimp only
   split
   . rename_i h;obtain⟨j,hj,_,O⟩:=C8 (t.next 7).1 h.2
     grind
   grind
 | succ d ih =>
   intro t;rw[jb]
   try dsimp only
   split
   . rename_i h;obtain⟨j,hj,_,O⟩:=C8 (t.next 7).1 h.2
     grind
   . split
     . exact hi
     . split
       . rename_i h;obtain⟨j,hj,_,O⟩:=C8 (t.next 7).1 h.2;rw[O];refine hc _ (az hj) _ (Ke ..) ?_;generalize hn:(((some D[j]).getD _:Decl).params.length)=n;clear hn
         induction n with
         |zero=>intro x hx;rw[qP]at hx;cases hx
         | succ n zL3 =>
           intro x hx;rw[qP]at hx
           grind [List.mem_singleton]
       grind
theorem ME {D:Z Decl} {Lv:Z G}:∀ (d:Nat) (t:Tp),t.ok->(jb d t D Lv).1.ok/\(jb d t D Lv).1.l=t.l:=by
 intro d
 induction d with
 | zero =>
   grind [jb,iw,LG]
 | succ d ih =>
   intro t h;rw[jb]
   try dsimp only
   split
   . grind [iw,LG]
   . split
     . grind [iw,LG]
     . split
       . have M:=iw (iw h 7) (D.length:Int);have O:((t.next 7).1.next (D.length:Int)).1.l=t.l:=by rw[LG,LG]
         generalize (t.next 7).1.next (D.length:Int)=q at M O;generalize (((D[q.2.toNat]?).getD _:Decl).params.length)=n
         induction n with
         |zero=>rw[qP];exact⟨M,O⟩
         | succ n zL3 =>
           grind [qP]
       grind [iw,LG]
def zpi{D:Z Decl}{Lv:Z G}(d:Nat){t:Tp}(h:t.ok)(n:Nat):(qP d t D Lv n).1.ok:=by
 induction n with
 |zero=>rw[qP];exact h
 |succ n ih=>rw[qP];exact(ME d _ ih).1
def PC(D:Z Decl):Prop:=D.length<=1000/\∀ d∈D,d.params.length<=100
theorem zff(bits:Int):PC (bu bits):=by
 refine⟨by have:=QM bits;omega,λd hd=>?_⟩;have:=ky hd;have key:∀ d∈Kw,d.params.length<=100:=by decide
 grind
def wB:Z cT->Int->Y G
 | [],_=>none
 |a::s,i=>if a.id=i then some a.type else wB s i
theorem Xc(s u:Z cT)(i:Int):wB (s++u) i=(wB s i).or (wB u i):=by
 induction s with
 |nil=>rfl
 | cons a s ih =>
   grind [wB]
mutual
def G.xV(s:Z cT):G->G
 |.mk k n i h l=>if k=1 then (wB s i).getD (.mk k n i h l)else .mk k n i h (G.zbm s l)
def G.zbm(s:Z cT):Z G->Z G
 | []=>[]
 |t::l=>G.xV s t::G.zbm s l
end
def zmY(s:Z cT)(l:Z G):G.zbm s l=l.map (G.xV s):=by
 induction l with
 |nil=>simp[G.zbm]
 |cons t l ih=>simp[G.zbm,ih]
def YH(s:Z cT)(t:G):t.xV s=if t.kind=1 then (wB s t.id).getD t else .mk t.kind t.name t.id t.home (t.args.map (G.xV s)):=by
 cases t;simp only[G.xV,G.fw,G.jC,G.o5,G.sJ,G.fC,zmY]
def tT:G:=.mk 0 [] 0 0 []
def zup:Slot:=⟨false,tT,0,false⟩
namespace ao
def cg (s:ao)(id:Int):Y Slot:=if 0<=id then s.a9[id.toNat]? else none
def set(s:ao)(id:Int)(x:Slot):ao×Bool :=
 match s.cg id with
 |some gg=>(⟨s.a9.set id.toNat x,s.b7++[⟨id,gg,false⟩]⟩,true)
 |none=>(s,false)
def bound(s:ao)(t:G):Bool :=
 match decide (t.kind=1),s.cg t.id with
 |true,some x=>x.bound
 |_,_=>false
def to(s:ao)(t:G):G :=
 match s.cg t.id with
 |some x=>x.type
 |none=>tT
def kM(s:ao):Nat->G->G
 | 0,t=>t
 |n+1,t=>if s.bound t then kM s n (s.to t)else t
def small(s:ao):Prop:=s.a9.length<=1000/\s.b7.length<=1000
instance (s:ao):Decidable s.small:=inferInstanceAs (Decidable (_/\_))
def fj (s:ao)(i:Nat):s.cg (i:Int)=s.a9[i]?:=by simp[cg]
theorem fY {s:ao}{id:Int}(h:s.cg id=some x):∃ i:Nat,id=i/\i<s.a9.length/\s.a9[i]?=some x:=by
 unfold cg at h
 grind
theorem ft {s:ao}{id:Int}(h:s.cg id=some x):∃ i:Nat,∃ hl:i<s.a9.length,id=i/\s.a9[i]=x:=by
 obtain⟨i,M,O,h3⟩:=fY h
 grind
theorem nj {s:ao}{id:Int}(h:s.cg id=none):id<0\/(s.a9.length:Int)<=id:=by
 unfold cg at h
 grind
theorem Dy{s:ao}{t:G}(h:s.bound t=true):t.kind=1/\∃ x,s.cg t.id=some x/\x.bound=true:=by
 grind [bound]
theorem Jt{s:ao}{t:G}(M:t.kind=1)(O:s.cg t.id=some x):s.bound t=x.bound:=by
 grind [bound]
end ao
def isArrow (t:G):T3 G G Bool :=
 if t.kind=4/\t.name=[45,62]then (match t.args with
  | [a,b]=>⟨a,b,true⟩
  |_=>⟨tT,tT,false⟩)else ⟨tT,tT,false⟩
mutual
def jX(kind:Int):G->Z G->Z G
 |.mk k n i h l,out=>if k=kind/\l=[]then (if G.mk k n i h l∈out then out else out++[G.mk k n i h l])else eO kind l out
def eO(kind:Int):Z G->Z G->Z G
 | [],out=>out
 |t::l,out=>eO kind l (jX kind t out)
end
def zJ(kind:Int)(t:G)(out:Z G):jX kind t out=if t.kind=kind/\t.args=[]then (if t∈out then out else out++[t])else eO kind t.args out:=by
 cases t;simp[jX]
def Nl(kind:Int)(l:Z G)(t:G)(out:Z G):eO kind (l++[t]) out=jX kind t (eO kind l out):=by
 induction l generalizing out with
 |nil=>simp[eO]
 |cons a l ih=>simp[eO,ih]
def Nn{kind:Int}{l:Z G}(h:∀ t∈l,∀ out,out.length<=(jX kind t out).length/\(jX kind t out).length<=out.length+t.size):∀ out,out.length<=(eO kind l out).length/\(eO kind l out).length<=out.length+G.bj l:=by
 induction l with
 |nil=>intro out;simp[eO,G.bj]
 | cons a l ih =>
   intro out;have M:=h a (aD ..) out;have O:=ih (λt ht=>h t (aF _ ht)) (jX kind a out);simp only[eO,G.bj];omega
theorem Ed(kind:Int)(t:G):∀ out,out.length<=(jX kind t out).length/\(jX kind t out).length<=out.length+t.size:=by
 induction t using G.ind with
 | h t ih =>
   intro out;rw[zJ];have hp:=G.size_pos t;split
   . grind
   . have:=Nn (kind:=kind) ih out;have:=G.size_eq t;omega
theorem qM(kind:Int)(l:Z G):∀ out,out.length<=(eO kind l out).length/\(eO kind l out).length<=out.length+G.bj l:=Nn λt _=>Ed kind t
theorem Qt{kind:Int}{l:Z G}(h:∀ t∈l,∀ out,G.eK out=true->G.eK (jX kind t out)=true):∀ out,G.eK out=true->G.eK (eO kind l out)=true:=by
 induction l with
 |nil=>intro out ho;simpa [eO]using ho
 | cons a l ih =>
   intro out ho;simp only[eO]
   grind
theorem zeA (kind:Int) (t:G):t.ok=true->∀ out,G.eK out=true->G.eK (jX kind t out)=true:=by
 induction t using G.ind with
 | h t ih =>
   intro ht out ho;rw[zJ];split
   . split
     . exact ho
     . rw[G.lD]at ho ⊢
       grind
   . exact Qt (λu hu=>ih u hu (G.EJ ht hu)) out ho
def Uo{kind:Int}{l:Z G}(hl:G.eK l=true):∀ out,G.eK out=true->G.eK (eO kind l out)=true :=
 Qt λt ht=>zeA kind t (G.lD.1 hl t ht)
theorem Fj(l m:Z G):G.bj (l++m)=G.bj l+G.bj m:=by
 induction l with
 |nil=>simp[G.bj]
 |cons a l ih=>simp[G.bj,ih,eD]
theorem VX(l:Z G)(i:Nat):G.bj (l.take i)<=G.bj l:=by
 grind [Fj,List.take_append_drop]
def zbC{l:Z G}(h:G.eK l=true)(i:Nat):G.eK (l.take i)=true:=G.lD.2 λt ht=>G.lD.1 h t (fK ht)
section
variable {σ β:Type} [iC σ] [bo α] [bo β]
def zNE(F:Z σ->α->Y (Z σ))(es:Z (Z V))(vs:Z V):Y (Z (Z V)×Z V):=match vs with
 | [x]=>W (eT es) λl=>W (bo.dec x) λa=>W (F l a) λr=>some (r.map iC.cells,[])
 |_=>none
def V9(F:Z σ->α->β->Y (Z σ))(es:Z (Z V))(vs:Z V):Y (Z (Z V)×Z V):=match vs with
 | [x,y]=>W (eT es) λl=>W (bo.dec x) λa=>W (bo.dec y) λb=>W (F l a b) λr=>some (r.map iC.cells,[])
 |_=>none
@[simp] def zJt {F:Z σ->α->β->Y (Z σ)} {es:Z (Z V)} {x y:V}:V9 F es [x,y]=W (eT es) λl=>W (bo.dec x) λa=>W (bo.dec y) λb=>W (F l a b) λr=>some (r.map iC.cells,[]):=(rfl)
def zbY{F:Z σ->α->β->Y (Z σ)}{es:Z (Z V)}(h:V9 F es vs=some r):∃ l a b q,es=l.map iC.cells/\vs=[enc a,enc b]/\F l a b=some q/\r=(q.map iC.cells,[]):=by
 unfold V9 at h;split at h
 . simp only[aA]at h;obtain⟨l,hl,a,ha,b,hb,q,hq,h⟩:=h;cases h;exact⟨l,a,b,q,iT hl,by rw[bo.bq _ _ ha,bo.bq _ _ hb],hq,rfl⟩
 . cases h
end
def AY(out:Z Int)(t:G):Z Int:=if t.id∈out then out else out++[t.id]
def vE(l:Z G):Z Int:=l.foldl AY []
def tQ(l:Z G):Z Int:=vE (eO 1 l [])
theorem Uw(l:Z G)(t:G):vE (l++[t])=AY (vE l) t:=by simp[vE]
theorem zkX(out:Z Int)(t:G):out.length<=(AY out t).length/\(AY out t).length<=out.length+1:=by
 grind [AY]
theorem Xf(l:Z G):(vE l).length<=l.length:=by
 have:∀ (l:Z G) (o:Z Int),(l.foldl AY o).length<=o.length+l.length:=by
  intro l
  induction l with
  |nil=>intro o;simp
  |cons a l ih=>intro o;have:=ih (AY o a);have:=zkX o a;simp;omega
 grind [vE]
structure tW where
 n:Nat
instance:bo tW where
 enc b:=.int .u8 (Int.ofNat b.n)
 dec v:=match v with
  |.int .u8 (.ofNat n)=>some ⟨n⟩
  |_=>none
 bZ _:=rfl
 bq v a h:=by
  split at h
  . cases h;rfl
  . cases h
 norm _:=rfl
@[simp] def zHz {b:tW}:(enc b:V)=.int .u8 (b.n:Int):=(rfl)
def rj(n:Nat):Bool:=decide (97<=n)&&decide (n<=122)
def ra(n:Nat):Bool:=decide (65<=n)&&decide (n<=90)
def zfd(n:Nat):Bool:=decide (48<=n)&&decide (n<=57)
def Di(n:Nat):Bool:=rj n||ra n||zfd n||decide (n=95)
def Wu(s:Z Nat):Bool:=s.all Di&&!s.isEmpty
def oZ:Z (Z Nat):=[[100,97,116,97],[108,101,116],[114,101,99],[105,110],[99,97,115,101],[111,102],[101,110,100]]
def Be(s:Z Nat):Bool:=Wu s&&ra (s.headD 0)&&decide (s.length<=12)
def j6(s:Z Nat):Bool:=Wu s&&rj (s.headD 0)&&decide (s.length<=12)&&decide (s ∉ oZ)
@[simp] def zsk:isStr TypeDesc.string=true:=(rfl)
mutual
def G.short:G->Bool
 |.mk _ n _ _ l=>decide (n.length<2^63)&&G.rV l
def G.rV:Z G->Bool
 | []=>true
 |t::l=>t.short&&G.rV l
end
def G.ziF{t:G}:t.short=true↔t.name.length<2^63/\G.rV t.args=true:=by cases t;simp[G.short]
def G.zdX{l:Z G}:G.rV l=true↔∀ t∈l,t.short=true:=by
 induction l with
 |nil=>simp[G.rV]
 |cons a l ih=>simp[G.rV,ih]
mutual
def G.valid:G->Bool
 | .mk k n i h l =>
   if k=1\/k=2 then decide (0<=i)&&decide (i<=1000000)&&decide (n=[])&&decide (h=0)&&decide (l.length=0)
   else if k=3 then decide (0<=i)&&decide (i<=1000000)&&decide (-1<=h)&&decide (h<=1000000)&&decide (n=[])&&decide (l.length=0)
   else if k=5 then decide (i=0)&&decide (h=0)&&decide (l.length=0)&&j6 n
   else if k=4 then decide (i=0)&&decide (h=0)&&G.qw l&&(if n=[45,62]then decide (l.length=2)else if n=[73,110,116]then decide (l.length=0)else Be n&&decide (l.length<=4))
   else false
def G.qw:Z G->Bool
 | []=>true
 |t::l=>t.valid&&G.qw l
end
theorem G.zx{l:Z G}:G.qw l=true↔∀ t∈l,t.valid=true:=by
 induction l with
 |nil=>simp[G.qw]
 |cons a l ih=>simp[G.qw,ih]
def ao.PA(s:ao):Prop:=s.a9.length<=6/\s.b7.length<=6/\(∀ x∈s.a9,x.type.size<=20)/\∀ x∈s.b7,x.gg.type.size<=20
instance:DecidablePred ao.PA:=λs=>by unfold ao.PA;infer_instance
def G.Lg {t:G} (h:t.valid=true):∀ u∈t.args,u.valid=true:=by
 obtain⟨k,n,i,hh,l⟩:=t;intro u hu;simp only[G.fC]at hu;unfold G.valid at h;by_cases hl:l.length=0
 . rw[List.length_eq_zero_iff.1 hl]at hu;cases hu
 . split at h
   . simp[hl]at h
   . split at h
     . simp[hl]at h
     . split at h
       . simp[hl]at h
       . split at h
         . simp only[aQ]at h;exact G.zx.1 h.1.2 u hu
         . cases h
def ao.zmE(s:ao)(x:Slot):Prop:=if x.bound=true then x.type.valid=true/\∀ v∈tQ [x.type],v<s.a9.length else x.type=tT
instance (s:ao)(x:Slot):Decidable (s.zmE x):=by unfold ao.zmE;infer_instance
def ao.fine(s:ao):Prop:=s.a9.length<=1000/\s.b7.length<=1000/\∀ x∈s.a9,x.type.ok=true/\x.type.short=true/\x.type.size<=10000
instance (s:ao):Decidable s.fine:=by unfold ao.fine;infer_instance
def PK(g:Y Nat)(id:Nat):V:=match g with
 |none=>.ptr id 0 0
 |some g=>.func g [.ptr id 0 0]
def r8 (g:Y Nat) (v:V):Y Nat:=match g with
 | none=>(match v with
   |.ptr id 0 0=>some id
   |_=>none)
 | some g=>(match v with
   |.func g' [.ptr id 0 0]=>gd (Nat.beq g' g) (some id)
   |_=>none)
def zkC{g:Y Nat}{id:Nat}(h:r8 g v=some id):v=PK g id:=by
 cases g with
 | none =>
   unfold r8 at h;dsimp only at h;split at h
   . cases h;rfl
   . cases h
 | some g =>
   unfold r8 at h;dsimp only at h;split at h
   . simp only[bE,beq_true]at h;obtain⟨rfl,h⟩:=h;cases h;rfl
   . cases h
abbrev jm(v:V):Obj:=.arr 1 0 [[v]] true false false
def du (o:Obj):Y V:=match o with
 |.arr 1 0 [[v]] true false false=>some v
 |_=>none
theorem uD{o:Obj}(h:du o=some v):o=jm v:=by
 unfold du at h
 grind
@[simp] def zKT :du (.arr 1 0 [[v]] true false false)=some v:=(rfl)
def Jr(cs:V)(id:Nat)(dq:Z V)(v0:V):EmbD where
 k:=1
 k':=1
 π:=λ_=>id
 OL:=[(0,jm cs)]
 cI:=[(0,jm cs)]
 dq:=dq
 v0:=v0
section
variable {σ:Type} [bo σ]
def Vg(g:Y Nat)(F:σ->G->Y G)(vs:Z V)(C:HS):Y EmbD:=match vs with
 | [tv,cv]=>W (r8 g cv) λid=>W (C.H.get id) λo=>W (du o) λc=>W (bo.dec c:Y σ) λs=>W (bo.dec tv:Y G) λa=>W (F s a) λr =>
  gd (Nat.blt id C.n) (some (Jr (enc s) id [tv,PK g 0] (enc r)))
 |_=>none
@[simp] def zKS {g:Y Nat} {F:σ→G→Y G} {tv cv:V} :Vg g F [tv,cv] C=W (r8 g cv) fun id=>W (C.H.get id) fun o=>W (du o) fun c=>W (bo.dec c:Y σ) fun s=>W (bo.dec tv:Y G) fun a=>W (F s a) fun r =>
      gd (Nat.blt id C.n) (some (Jr (enc s) id [tv,PK g 0] (enc r))):=(rfl)
@[simp] def zAU {id:Nat}:r8 none (.ptr id 0 0)=some id:=(rfl)
@[simp] theorem zyj {id:Nat}:r8 (some g) (.func g [.ptr id 0 0])=some id:=by
  show gd (Nat.beq g g) (some id)=_
  simp_all
@[simp] def zAT {id:Nat}:PK none id=.ptr id 0 0:=(rfl)
@[simp] def zAS {id:Nat}:PK (some g) id=.func g [.ptr id 0 0]:=(rfl)
def zV(a:G):(enc a:V).pure=true:=jM (vs:=[enc a]) (by simp) _ (ay.2 rfl)
theorem PL{g:Y Nat}{s:σ}{id:Nat}{a r:G}(dt:(enc s:V).bM=true):(Jr (enc s) id [enc a,PK g 0] (enc r)).Good:=by
 have hb:∀ A:Nat->Bool,(jm (enc s)).in A=true:=λA=>by
  show (([[enc s]]:Z (Z V)).all λe=>e.all (V.zM A))=true
  simp_all [iW,rz,fM,V.zL]
 refine⟨rfl,rfl,af _,?_,?_,V.dU (zV r),?_⟩
 . intro p hp;obtain rfl:=ay.1 hp;exact hb _
 . intro p hp;obtain rfl:=ay.1 hp;exact⟨hb _,rfl⟩
 . intro v hv;simp only[Jr,aB,aS,or_false]at hv;rcases hv with rfl|rfl
   . exact V.dU (zV a)
   . cases g<;>rfl
def Vf{g:Y Nat}{F:σ->G->Y G}(hσ:∀ s:σ,(enc s:V).bM=true){D:EmbD}(h:Vg g F vs C=some D) :
 ∃ s a r id,F s a=some r/\D=Jr (enc s) id [enc a,PK g 0] (enc r)/\D.Good/\D.Fits vs C:=by
 unfold Vg at h;split at h
 . rename_i tv cv;simp only[aA,bE,gz]at h;obtain⟨id,hid,o,ho,c,hc,s,K0,a,ha,r,hr,cC,h⟩:=h;cases h;have e1:=bo.bq _ _ ha;subst e1;have e2:=zkC hid;subst e2;have e3:=bo.bq _ _ K0;subst e3;have e4:=uD hc;subst e4;refine⟨s,a,r,id,hr,rfl,PL (hσ s),?_,?_,?_,?_,?_⟩
   . simp only[Jr,aR,iP];rw[V.jw (V.dU (zV a))];cases g<;>rfl
   . intro i j hi hj _;simp only[Jr]at hi hj;omega
   . intro p hp;obtain rfl:=ay.1 hp;show C.H.get id=some ((jm (enc s)).cq _);rw[ho];show _=some (Obj.arr 1 0 [[(enc s:V).jl _]] true false false);rw[V.jP (hσ s)]
   . intro i hi;simp only[Jr]at hi;omega
   . intro i hi;simp only[Jr]at hi ⊢;exact cC
 . cases h
@[simp] def zE5 {cs:V} {id:Nat}  {v0:V}  (h:v0.tJ (λ_=>false)=true):(Jr cs id dq v0).val C=v0:=by
  show v0.cq _=_;exact V.jw h
@[simp] def zAV {cs:V} {id:Nat}  {v0:V}  (h:cs.bM=true):(Jr cs id dq v0).heap C={ H:=C.H.set id (jm cs),n:=C.n,log:=id::C.log }:=by
  show ({ H:=C.H.set id (Obj.arr 1 0 [[cs.jl _]] true false false),n:=C.n+0,log:=id::C.log }:HS)=_;rw[V.jP h];rfl
end
def pC(i:Nat)(c:V):Bool:=match c with
 |.own id _ _ _ _=>Nat.beq id i
 |_=>false
theorem Jd  :∀ {l:Z V},(l.any (pC i))=false->(mr C l).H.get i=C.H.get i:=by
 intro l
 induction l with
 |nil=>intro _;rfl
 | cons c l ih =>
   intro h;rw[qo,ko]at h;show (nI (mr C l) c).H.get i=_;rw[<- ih h.2];unfold nI;split
   . rename_i id _ _ _ _
     have cb:id≠i:=λe=>by
      simp_all [pC]
     unfold iF
     cases hg:(mr C l).H.get id with
     |none=>rfl
     | some o =>
       cases ha:o.wi with
       |none=>simp only[vP,ha]
       | some a =>
         simp only[vP,ha];show ((mr C l).H.set id _).get i=_;rw[PT.cK,if_neg (λe=>cb e.symm)]
   . rfl
theorem BG.bw{v0:V}(hi:cd (OL.map λp=>p.1)=true)(hk:(List.range k).all (λi=>cr OL i)=true)(hn:ok (kP C v) λv'=>gX v'=v0/\v'.tJ (cr OL)=true)
 (hH:∀ p∈OL,p.2.in (cr OL)=true/\(v.cells.any (pC p.1))=false/\C.H.get p.1=some p.2):BG k v0 OL v C:=by
 obtain⟨v',hv,e1,e2⟩:=hn;refine⟨(v',mr C v.cells),by simp only[ng,hv];rfl,aH.bw hi hk e1 e2 λp hp=>?_⟩
 grind [Jd]
def zsU{f:FuncId}{fn:Func}{sc:SC}{D:EmbD}(hρ:J.Good I)(aq:bH I E)(hP:E.P.follows .mixedOrders=true)(hN:vK E.P)(hf:E.P.funcs[f]?=some fn)(hb:fn.body.bind aU=some sc)(he:jE fn.ntmps D.dq 0 .leaf=some T)
 (hg:D.Good) (h:Wp I E D.k fn.ntmps sc T { H:=dW D.OL,n:=D.k,log:=[] } (Leaves E.P fn (BG D.k D.v0 D.cI)))   (b4:D.Fits vs C) :
 aT I E.P f vs C (D.v0.cq (news C.n D.k D.π)) (Dn C D.k D.k' D.π D.cI):=by
 rw[<- b4.args];exact ZF hf hb he (DF hρ aq hP hN h) (λ_ _ h=>.inr h) hg.ol hg.zCW hg.le hg.Mu hg.znU hg.v0 hg.dq b4.inj b4.obj b4.zBH b4.lt
def SC.plain:SC->Bool
 |.loop _=>false
 |.range _ _ _ _=>false
 |.seq a b=>a.plain&&b.plain
 |.cond _ a b=>a.plain&&b.plain
 |.block _ a=>a.plain
 |_=>true
section
variable {sz:Nat}{rd:Bool}
def X6:∀ {s:SC} {T:PT V} {C:HS} {Q:Ex->PT V->HS->Prop},s.plain=true->Wp I E k sz s T C Q->Js E rd sz s T C Q:=by
 intro s
 induction s with
 |skip=>intro T C Q _ h;exact Z6 h
 |ret=>intro T C Q _ h;exact zpz h
 |exit i=>intro T C Q _ h;exact zhU h
 |w7 l=>intro T C Q _ h;exact PW h
 |draw l bs=>intro T C Q _ h;exact zhV h
 | seq a b Fl UP =>
   intro T C Q hp h;rw[SC.plain,aQ]at hp;refine JH (zhS (Fl hp.1 h) λe T C q=>?_)
   cases e with
   |normal=>exact UP hp.2 q
   |ret=>exact q
   |exit i=>exact q
 | cond q a b Fl UP =>
   intro T C Q hp h;rw[SC.plain,aQ]at hp;obtain⟨v,hv,t,ht,h⟩:=h;rw[V.fL]at ht;subst ht;refine Og hv (λe=>?_) (λe=>?_)
   . rw[if_pos e]at h;exact Fl hp.1 h
   . rw[if_neg (by rw[e];simp)]at h;exact UP hp.2 h
 |block i a Fl=>intro T C Q hp h;exact VG (Fl hp h)
 |loop a _=>intro T C Q hp;cases hp
 |range g ps a b _ _=>intro T C Q hp;cases hp
end
def zpd (tS tE tI tB:Nat):SC :=
 .seq (.w7 [⟨some 4,.load tS (.tmp 1),none⟩,⟨some 5,.call ⟨.builtin .len,#[.tmp 4],#[tS]⟩,none⟩,⟨some 6,.binOp .sub tI (.tmp 5) (.const (.int .i64 1)) tI,none⟩,⟨some 3,.assign (.tmp 6),none⟩])
  (.block 0 (.loop (.seq (.seq (.w7 [⟨some 7,.move (.tmp 3),none⟩,⟨some 8,.binOp .geq tI (.tmp 7) (.const (.int .i64 0)) tI,none⟩]) (.cond (.tmp 8) .skip (.exit 0)))
    (.seq (.block 1 (.seq (.w7 [⟨some 11,.move (.tmp 0),none⟩,⟨some 12,.move (.tmp 3),none⟩,⟨some 13,.load tS (.tmp 1),none⟩,⟨some 14,.move (.tmp 3),none⟩,⟨some 15,.indexAddr tS (.tmp 13) (.tmp 14),none⟩,
      ⟨some 16,.load tE (.tmp 15),none⟩,⟨some 17,.call ⟨.value (.tmp 11),#[.tmp 12,.tmp 16],#[tI,tE]⟩,none⟩,⟨some 18,.unOp .not tB (.tmp 17),none⟩]) (.cond (.tmp 18) .ret .skip)))
      (.w7 [⟨some 9,.move (.tmp 3),none⟩,⟨some 10,.binOp .sub tI (.tmp 9) (.const (.int .i64 1)) tI,none⟩,⟨some 3,.assign (.tmp 10),none⟩])))))
theorem Qf{ops l:Z Oper}{r:Z vm}(h:dv ops l=some (s::r)):∃ o l',l=o::l'/\o.dst=s.d/\o.op=s.op/\Lm ops o.guard=some s.g/\dv ops l'=some r:=by
 cases l with
 |nil=>cases h
 | cons o l' =>
   grind [dv]
theorem zaX{ops:Z Oper}{g:Y (Nat×Bool)}(h:Lm ops g=some none):g=none:=by
 unfold Lm at h
 grind
def Sw{id:Nat}{op:Op}{K:V->HS->Prop}(hk:∀ v C,K v C->K' v C)(h:CE E id T C op K):CE E id T C op K':=by
 cases op with
 | call c =>
   obtain⟨zOm,as,ts⟩:=c
   cases zOm with
   |builtin b=>exact⟨h.1,wN h.2 λvs h=>wN h λr h=>hk _ _ h⟩
   |value x=>exact⟨h.1,wN h.2 λv h=>wN h λp h=>wN h λvs h=>wN h λr h=>hk _ _ h⟩
   |invoke a b=>exact h
 |_=>exact⟨h.1,wN h.2 λr h=>hk _ _ h⟩
theorem zpt  {sz:Nat} {ops:Z Oper}:∀ (s1:Z vm) {l:Z Oper} {s2:Z vm} {id:Nat} {T:PT V} {C:HS} {R:PT V->HS->Prop},dv ops l=some (s1++s2) ->
 (Rs E sz s1 id T C λT1 cm=>∀ l2,dv ops l2=some s2->Ro E sz ops l2 (id+s1.length) T1 cm R)->Ro E sz ops l id T C R:=by
 intro s1
 induction s1 with
 |nil=>intro l s2 id T C R h hr;exact hr l h
 | cons s s1 ih =>
   intro l s2 id T C R h hr;obtain⟨o,l',rfl,hd,mc,hg,hl⟩:=Qf (r:=s1++s2) h
   have M:dv (ops) [o]=some [s]:=by
    grind [dv]
   have key:Rs E sz [s] id T C λT1 cm=>Ro E sz ops l' (id+1) T1 cm R:=by
    have C6:wpS E id T C s λv a8=>put sz T s.d v λT1=>Rs E sz s1 (id+1) T1 a8 λT1 cm=>∀ l2,dv ops l2=some s2->Ro E sz ops l2 (id+(s::s1).length) T1 cm R:=hr
    show wpS E id T C s λv a8=>put sz T s.d v λT1=>Ro E sz ops l' (id+1) T1 a8 R
    have e:∀ T1 a8,(Rs E sz s1 (id+1) T1 a8 λT1 cm=>∀ l2,dv ops l2=some s2->Ro E sz ops l2 (id+(s::s1).length) T1 cm R)->Ro E sz ops l' (id+1) T1 a8 R:=by
     intro T1 a8 hh;refine ih hl ?_;rw[show id+1+s1.length=id+(s::s1).length by simp;omega];exact hh
    have mono:∀ {K K':V->HS->Prop},(∀ v C,K v C->K' v C)->CE E id T C s.op K->CE E id T C s.op K':=λhk h=>Sw hk h
    have pm:∀ {v:V} {K K':PT V->Prop},(∀ T,K T->K' T)->put sz T s.d v K->put sz T s.d v K':=by
     intro v K K' hk hp;unfold put at hp ⊢
     grind
    unfold wpS at C6 ⊢;split
    . grind
    . rename_i t w eM;rw[eM]at C6;refine wN C6 λv h=>wN h λq h=>?_
      grind
   have O:=zpu (E:=E) (sz:=sz) (ops:=ops) M key;obtain⟨n,T',a8,h3,h4⟩:=O;have h3':(W (vT E (rF E n) sz ops o id T C) λr=>some (r.1,r.2))=some (T',a8):=h3
   grind [aA,Z4]
def zpy  {rd:Bool} {sz:Nat}    (s1:Z vm) {s2:Z vm} (h:Rs E sz s1 C.n T { H:=C.H,n:=C.n+(s1++s2).length,log:=C.log } λT1 cm=>∀ ops l2,dv ops l2=some s2->Ro E sz ops l2 (C.n+s1.length) T1 cm λT C=>Q .normal T C) :
 Js E rd sz (.w7 (s1++s2)) T C Q:=λc hc=>by
 obtain⟨id,ops,rfl,hl⟩:=jf hc
 have hlen:∀ {m:Z Oper} {s:Z vm},dv ops.toList m=some s->s.length=m.length:=by
  intro m
  induction m with
  |nil=>intro s h;cases h;rfl
  | cons o m ih =>
    intro s h;unfold dv at h;split at h
    . rename_i g r hg hr;cases h;simp[ih hr]
    . cases h
 rw[hlen hl]at h
 have mono:∀ {s:Z vm} {id:Nat} {T:PT V} {C:HS} {R R':PT V->HS->Prop},(∀ T C,R T C->R' T C)->Rs E sz s id T C R->Rs E sz s id T C R':=by
  intro s
  induction s with
  |nil=>intro id T C R R' hk h;exact hk _ _ h
  | cons o s ih =>
    intro id T C R R' hk h
    have pm:∀ {T:PT V} {v:V} {K K':PT V->Prop},(∀ T,K T->K' T)->put sz T o.d v K->put sz T o.d v K':=by
     intro T v K K' hk hp;unfold put at hp ⊢;split
     . rename_i eM;rw[eM]at hp;exact hk _ hp
     . rename_i d eM;rw[eM]at hp;exact⟨hp.1,hk _ hp.2⟩
    show wpS E id T C o _;have h':wpS E id T C o λv a8=>put sz T o.d v λT1=>Rs E sz s (id+1) T1 a8 R:=h
    unfold wpS at h' ⊢;split
    . rename_i eM;rw[eM]at h';exact Sw (λv C h=>pm (λT h=>ih hk h) h) h'
    . rename_i t w eM;rw[eM]at h';refine wN h' λv h=>wN h λq h=>?_
      split
      . rename_i e1;rw[if_pos e1]at h;exact Sw (λv C h=>pm (λT h=>ih hk h) h) h
      . rename_i e1;rw[if_neg e1]at h;exact pm (λT h=>ih hk h) h
 have:=X9 (id:=id) (rd:=rd) (Q:=Q) (ops:=ops.toList) (zpt (E:=E) (sz:=sz) s1 hl (mono (λT1 cm h l2 xf=>h _ l2 xf) h));simpa using this
def ziO{sz:Nat}{a b:Code}(hL:C.H.get L=some (.lp sz T ps.toList a b 0))(hz:H8 sz ps.toList vs T=some T1)
 (h:Jc E true sz a T1 C λex T2 cm=>ex=.normal/\cm.H.get L=some (.lp sz T ps.toList a b 0) /\
   Jc E true sz b T2 (cm.wr L (.lp sz T ps.toList a b 1)) λex T3 dt=>dt.H.get L=some (.lp sz T ps.toList a b 1)/\(ex=.normal/\K true (dt.wr L (.lp sz T ps.toList a b 0))\/ex=.ret/\K false (dt.wr L (.lp sz T ps.toList a b 2)))) :
 ∃ n t a8,zA (rF E n) L vs C=some (.bool t,a8)/\K t a8:=by
 obtain⟨n,ex,T2,cm,M,rfl,O,m,BM,T3,dt,h3,h4,⟨rfl,h5⟩|⟨rfl,h5⟩⟩:=h
 all_goals
  refine⟨max n m,_,_,?_,h5⟩;simp only[zA,aA,bE];exact⟨_,hL,_,rfl,rfl,T1,hz,_,(Je E (iG n m)).code M,rfl,_,O,_,rfl,rfl,_,(Je E (jL n m)).code h3,_,h4,_,rfl,rfl⟩
theorem zk0{sz:Nat}{ops l:Z Oper}{id:Nat}{R:PT V->HS->Prop}{o:Oper}{x:Operand}{xs:Array Operand}(hd:o.dst=some d)(hg:o.guard=none)(mc:o.op=.call ⟨.value x,xs,ts⟩)
 (hv:C.H.get id=none) (hx:bV T x=some (.ly L)) (fv:ku T xs.toList=some vs) (hdz:d<sz) (h:∃ n a8,zA (rF E n) L vs C=some (.bool t,a8)/\Ro E sz ops l (id+1) (T.set d (.bool t)) a8 R):Ro E sz ops (o::l) id T C R:=by
 obtain⟨n,a8,M,O⟩:=h;refine Z4 ⟨n,(T.set d (.bool t),a8),?_,O⟩;have hw:xy ops T o=some true:=by unfold xy;rw[hg];rfl
 have hc:dR o.op=2:=by rw[mc];rfl
 have eC:cp E (rF E n) false T C id o=some (.bool t,a8):=by
  unfold cp;rw[mc];show (W (ku T xs.toList) λvs=>W (bV T x) λv=>Lf E (rF E n) v vs C)=_;rw[fv,dY,hx,dY];exact M
 show (W (xy ops T o) λw=>bi w _ _)=_;rw[hw,dY,iL,hc];show gd (ig C id) _=_;rw[aJ.2 hv,qY,eC,dY,hd];show (W (gd (Nat.blt d sz) (some (T.set d (.bool t)))) λT'=>some (T',a8))=_
 simp_all
section
variable {f:FuncId}{fn:Func}{tS tE tI tB:Nat}{IS IE:TI}
theorem zkN (zy2:ti E.P tS=some IS) (zAz:IS.desc=.slice tE) (zB8:ti E.P tE=some IE) {es:Z (Z V)}  (b8:bj IE.size es=true) {val:Z V->V} (kj:∀ e∈es,AA IE e 0=some (val e)) (hlen:es.length<2 ^ 62)
  (kO:Nat->HS->Prop) (zsH:∀ j C,kO j C->C.H.get bx=some (.arr 1 0 [[.sl es tg]] true false false)) (hIn:∀ j C m log,kO j C->C.n<=m->kO j { H:=C.H,n:=m,log:=log }) (zKm:∀ j C,kO j C->∀ i,C.n<=i->C.H.get i=none)
 {J:HS->Prop} (zHk:∀ C m log,J C->C.n<=m->J { H:=C.H,n:=m,log:=log })
 (s7:∀ i e,es[i]?=some e->∀ C,kO (i+1) C->∃ n t a8,zA (rF E n) L [.int .i64 (i:Int),val e] C=some (.bool t,a8)/\(bif t then kO i a8 else J a8))  (hQ:∀ T C,kO 0 C->Q (.exit 0) T C) (hR:∀ T C,J C->Q .ret T C) :
 ∀ (j:Nat) (T:PT V) (C:HS),j<=es.length->kO j C->T.get 0=some (.ly L)->T.get 1=some (.ptr bx 0 0)->T.get 3=some (.int .i64 ((j:Int)-1)) ->
   Js E false 19 (.loop (.seq (.seq (.w7 [⟨some 7,.move (.tmp 3),none⟩,⟨some 8,.binOp .geq tI (.tmp 7) (.const (.int .i64 0)) tI,none⟩]) (.cond (.tmp 8) .skip (.exit 0)))
   (.seq (.block 1 (.seq (.w7 [⟨some 11,.move (.tmp 0),none⟩,⟨some 12,.move (.tmp 3),none⟩,⟨some 13,.load tS (.tmp 1),none⟩,⟨some 14,.move (.tmp 3),none⟩,⟨some 15,.indexAddr tS (.tmp 13) (.tmp 14),none⟩,
     ⟨some 16,.load tE (.tmp 15),none⟩,⟨some 17,.call ⟨.value (.tmp 11),#[.tmp 12,.tmp 16],#[tI,tE]⟩,none⟩,⟨some 18,.unOp .not tB (.tmp 17),none⟩]) (.cond (.tmp 18) .ret .skip)))
     (.w7 [⟨some 9,.move (.tmp 3),none⟩,⟨some 10,.binOp .sub tI (.tmp 9) (.const (.int .i64 1)) tI,none⟩,⟨some 3,.assign (.tmp 10),none⟩])))) T C Q:=by
 intro j
 induction j with
 | zero =>
   intro T C hj hI h0 M h3;refine zhT (JH (JH (PW ?_)));simp[h3];refine Og (t:=false) (by simp) (λh=>by cases h) λ_=>zhU ?_
   simp_all
 | succ j ih =>
   intro T C hj hI h0 M h3;have qt:((j+1:Nat):Int)-1=(j:Int):=by omega
   rw[qt]at h3;obtain⟨e,he⟩:∃ e,es[j]?=some e:=⟨es[j],ax (by omega)⟩;have hem:=aC he;refine zhT (JH (JH (PW ?_)));simp[h3];refine Og (t:=true) (by simp) (λ_=>Z6 ?_) λh=>by cases h
   refine JH (VG (JH ?_));have hbx:=zsH _ _ hI;refine zpy [⟨some 11,.move (.tmp 0),none⟩,⟨some 12,.move (.tmp 3),none⟩,⟨some 13,.load tS (.tmp 1),none⟩,⟨some 14,.move (.tmp 3),none⟩,⟨some 15,.indexAddr tS (.tmp 13) (.tmp 14),none⟩,⟨some 16,.load tE (.tmp 15),none⟩] (s2:=[⟨some 17,.call ⟨.value (.tmp 11),#[.tmp 12,.tmp 16],#[tI,tE]⟩,none⟩,⟨some 18,.unOp .not tB (.tmp 17),none⟩]) ?_;have hv:=kj e hem;simp at hv;simp[h0,M,h3,hbx,zy2,zAz,zB8,b8,he,hv];intro ops l2 xf;obtain⟨o1,l3,rfl,pS,zJQ,hg1,hl3⟩:=Qf xf;have hg1:=zaX hg1;obtain⟨n,t,a8,h4,h5⟩:=s7 j e he _ (hIn _ _ (C.n+2+8) C.log hI (by omega));refine zk0 (t:=t) (L:=L) (vs:=[.int .i64 (j:Int),val e]) pS hg1 zJQ (zKm _ _ hI _ (by omega)) (by simp) (by simp) (by omega) ?_;refine⟨n,a8,h4,?_⟩;refine zpu hl3 ?_;simp;cases t
   . refine Og (t:=true) (by simp) (λ_=>zpz ?_) λh=>by cases h
     simp_all
   . refine Og (t:=false) (by simp) (λh=>by cases h) λ_=>Z6 ?_
     refine PW ?_;have hw:IntKind.i64.wrap ((j:Int)-1)=(j:Int)-1:=wrap_i64 (by omega) (by omega);simp[h0,M,h3,hw];refine ih _ _ (by omega) (hIn _ _ _ _ h5 (by omega)) (by simp[h0]) (by simp[M]) (by simp)
theorem zkO(hf:E.P.funcs[f]?=some fn)(hb:fn.body.bind aU=some (zpd tS tE tI tB))(hnt:fn.ntmps=19)(nB:fn.results.toList=[])
 (zy2:ti E.P tS=some IS) (zAz:IS.desc=.slice tE) (zB8:ti E.P tE=some IE) {es:Z (Z V)}  (b8:bj IE.size es=true) {val:Z V->V} (kj:∀ e∈es,AA IE e 0=some (val e)) (hlen:es.length<2 ^ 62)
  (kO:Nat->HS->Prop) (zsH:∀ j C,kO j C->C.H.get bx=some (.arr 1 0 [[.sl es tg]] true false false)) (hIn:∀ j C m log,kO j C->C.n<=m->kO j { H:=C.H,n:=m,log:=log }) (zKm:∀ j C,kO j C->∀ i,C.n<=i->C.H.get i=none)
 {J:HS->Prop} (zHk:∀ C m log,J C->C.n<=m->J { H:=C.H,n:=m,log:=log })
 (s7:∀ i e,es[i]?=some e->∀ C,kO (i+1) C->∃ n t a8,zA (rF E n) L [.int .i64 (i:Int),val e] C=some (.bool t,a8)/\(bif t then kO i a8 else J a8))  (h0:kO es.length C) :
 ∃ n a8,(rF E n).call f [.ly L,.ptr bx 0 0] C=some (.tuple [],a8)/\(kO 0 a8\/J a8):=by
 have hbx:=zsH _ _ h0;have hw:IntKind.i64.wrap ((es.length:Int)-1)=(es.length:Int)-1:=wrap_i64 (by omega) (by omega)
 obtain⟨n,v,a8,M,rfl,O⟩:=ziL (E:=E) (f:=f) (vs:=[.ly L,.ptr bx 0 0]) (C:=C) (T:=(PT.leaf.set 0 (.ly L)).set 1 (.ptr bx 0 0)) (K:=λv a8=>v=.tuple []/\(kO 0 a8\/J a8)) hf hb (by rw[hnt];rfl) (by
  rw[hnt];refine JH (PW ?_);simp[hbx,zy2,zAz,hw];refine VG ?_;refine zkN zy2 zAz zB8 b8 kj hlen kO zsH hIn zKm zHk s7 (λT C hI=>?_) (λT C hI=>?_) es.length _ _ (af _) (hIn _ _ _ _ h0 (by omega)) (by simp) (by simp) (by simp)
  all_goals simp only[Ex.inBlock,if_true]
  . refine⟨λi h=>(by cases h),?_⟩;rw[nB];exact⟨[],rfl,rfl,.inl hI⟩
  . refine⟨λi h=>(by cases h),?_⟩;rw[nB]
    exact⟨[],rfl,rfl,.inr hI⟩)
 grind
def Z7 (hf:E.P.funcs[f]?=some fn) (hb:fn.body.bind aU=some (zpd tS tE tI tB)) (hnt:fn.ntmps=19) (nB:fn.results.toList=[])
 (zy2:ti E.P tS=some IS) (zAz:IS.desc=.slice tE) (zB8:ti E.P tE=some IE) {es:Z (Z V)}  (b8:bj IE.size es=true) {val:Z V->V} (kj:∀ e∈es,AA IE e 0=some (val e)) (hlen:es.length<2 ^ 62)
 {sz:Nat}    {log:Z Nat} {g:Operand}  {sa sb:SC}   (hg:bV T g=some (.func f [.ptr bx 0 0])) (hbx:H0.get bx=some (.arr 1 0 [[.sl es tg]] true false false)) (pT:bx<L) (rE:∀ i,L<=i->H0.get i=none) (hz:∀ v1 v2,∃ T1,H8 sz ps.toList [v1,v2] T=some T1)
 (kO:Nat->PT Obj->Prop) (cJ:Nat->Z V->PT V->PT Obj->Nat->Prop) (zKn:∀ j H o,kO j H->kO j (H.set L o)) (zHj:∀ j e T H n o,cJ j e T H n->cJ j e T (H.set L o) n) (h0:kO es.length H0)
  (zMl:∀ H n o,L<n->JJ H n->JJ (H.set L o) n) (zHk:∀ H n n',n<=n'->JJ H n->JJ H n')
 (hA:∀ i e,es[i]?=some e->∀ H n log T1,L<n->(∀ i,n<=i->H.get i=none)->kO (i+1) H->H8 sz ps.toList [.int .i64 (i:Int),val e] T=some T1 ->
   Js E true sz sa T1 { H:=H,n:=n,log:=log } λex T2 dt=>ex=.normal/\n<=dt.n/\dt.H.get L=H.get L/\dt.H.get bx=H.get bx/\(∀ i,dt.n<=i->dt.H.get i=none)/\cJ i e T2 dt.H dt.n)
 (hB:∀ i e,es[i]?=some e->∀ H n log T2,L<n->(∀ i,n<=i->H.get i=none)->cJ i e T2 H n ->
   Js E true sz sb T2 { H:=H,n:=n,log:=log } λex _ iu=>n<=iu.n/\iu.H.get L=H.get L/\(∀ i,iu.n<=i->iu.H.get i=none)/\(ex=.normal/\iu.H.get bx=H.get bx/\kO i iu.H\/ex=.ret/\JJ iu.H iu.n))
 (hQ:∀ H n log,L<n->(∀ i,n<=i->H.get i=none)->kO 0 H->Q .normal T { H:=H,n:=n,log:=log })
 (hR:∀ H n log,L<n->(∀ i,n<=i->H.get i=none)->JJ H n->Q .ret T { H:=H,n:=n,log:=log }) :
 Js E false sz (.range g ps sa sb) T { H:=H0,n:=L,log:=log } Q:=λc hc=>by
 obtain⟨a,b,rfl,ha,pZ⟩:=jf hc
 obtain ⟨n,a8,M,hh⟩:=zkO (f:=f) (L:=L) (bx:=bx) hf hb hnt nB zy2 zAz zB8 b8 kj hlen
  (λj C=>C.H.get bx=some (.arr 1 0 [[.sl es tg]] true false false)/\C.H.get L=some (.lp sz T ps.toList a b 0)/\L<C.n/\(∀ i,C.n<=i->C.H.get i=none)/\kO j C.H)
  (λj C h=>h.1) (λj C m log h hm=>⟨h.1,h.2.1,bY h.2.2.1 hm,λi hi=>h.2.2.2.1 i (aO hm hi),h.2.2.2.2⟩) (λj C h=>h.2.2.2.1) (J:=λC=>C.H.get L=some (.lp sz T ps.toList a b 2)/\L<C.n/\(∀ i,C.n<=i->C.H.get i=none)/\JJ C.H C.n) (λC m log h hm=>⟨h.1,bY h.2.1 hm,λi hi=>h.2.2.1 i (aO hm hi),zHk _ _ _ hm h.2.2.2⟩) (by
    intro i e he C ⟨k1,k2,k3,k4,k5⟩;have cb:bx≠L:=by omega
    obtain⟨T1,j8⟩:∃ T1,H8 sz ps.toList [.int .i64 (i:Int),val e] T=some T1:=hz _ _;refine ziO (K:=λt C=>bif t then _ else _) k2 j8 (Oh (hA i e he C.H C.n C.log T1 k3 k4 k5 j8 a ha) ?_);rintro ex T2 dt ⟨rfl,m1,m2,m3,m4,m5⟩;refine⟨rfl,by rw[m2,k2],?_⟩;have tw:L<dt.n:=bY k3 m1;refine Oh (hB i e he _ dt.n _ T2 tw (λi hi=>?_) (zHj _ _ _ _ _ (.lp sz T ps.toList a b 1) m5) b pZ) ?_
    . rw[PT.cK,if_neg (by omega)];exact m4 i hi
    . rintro ex T3 iu ⟨q1,q2,q4,q⟩;have hv:∀ o i,iu.n<=i->(iu.H.set L o).get i=none:=λo i hi=>by rw[PT.cK,if_neg (by omega)];exact q4 i hi
      refine⟨by rw[q2,PT.cK,if_pos rfl],?_⟩;rcases q with⟨rfl,q3,q5⟩|⟨rfl,q5⟩
      . refine .inl ⟨rfl,?_,by show (iu.H.set L _).get L=_;rw[PT.cK,if_pos rfl],bY tw q1,hv _,zKn _ _ _ q5⟩;show (iu.H.set L _).get bx=_;rw[PT.cK,if_neg cb,q3,PT.cK,if_neg cb,m3,k1]
      . exact .inr ⟨rfl,by show (iu.H.set L _).get L=_;rw[PT.cK,if_pos rfl],bY tw q1,hv _,zMl _ _ _ (bY tw q1) q5⟩)
  (C := HS.put { H:=H0,n:=L+1,log:=log } L (.lp sz T ps.toList a b 0)) (by
    refine⟨?_,?_,iZ _,λi hi=>?_,zKn _ _ _ h0⟩
    . show (H0.set L _).get bx=_;rw[PT.cK,if_neg (by omega),hbx]
    . show (H0.set L _).get L=_;rw[PT.cK,if_pos rfl]
    . show (H0.set L _).get i=_;have:L+1<=i:=hi
      rw[PT.cK,if_neg (by omega)];exact rE i (by omega))
 have hv:∀ o i,L<a8.n->(∀ i,a8.n<=i->a8.H.get i=none)->a8.n<=i->(a8.H.set L o).get i=none:=λo i h4 h5 hi=>by rw[PT.cK,if_neg (by omega)];exact h5 i hi
 rcases hh with⟨_,h3,h4,h5,h6⟩|⟨h3,h4,h5,h6⟩
 . refine⟨n+1,.normal,T,a8.wr L (.lp sz T ps.toList a b 1),?_,hQ _ _ _ (show L<a8.n from h4) (λi hi=>hv _ i h4 h5 hi) (zKn _ _ _ h6)⟩;show gd true (W (bV T g) λv=>Gf (rF E n) sz ps a b T { H:=H0,n:=L,log:=log } v)=_;rw[qY,hg,dY];simp only[Gf,aA,bE,aJ];exact⟨_,rfl,rE L (af _),_,M,_,h3,_,rfl,_,rfl,rfl⟩
 . refine⟨n+1,.ret,T,a8.wr L (.lp sz T ps.toList a b 1),?_,hR _ _ _ (show L<a8.n from h4) (λi hi=>hv _ i h4 h5 hi) (zMl _ _ _ h4 h6)⟩;show gd true (W (bV T g) λv=>Gf (rF E n) sz ps a b T { H:=H0,n:=L,log:=log } v)=_;rw[qY,hg,dY];simp only[Gf,aA,bE,aJ];exact⟨_,rfl,rE L (af _),_,M,_,h3,_,rfl,_,rfl,rfl⟩
end
def AV(g:Nat)(es:Z (Z V))(tg:Bool):EmbD where
 k:=0
 k':=1
 π:=λi=>i
 OL:=[]
 cI:=[(0,jm (.sl es tg))]
 dq:=[.sl es tg]
 v0:=.func g [.ptr 0 0 0]
def Hg(g:Nat)(vs:Z V)(C:HS):Y EmbD:=match vs with
 | [.sl es tg]=>gd (ig C C.n) (some (AV g es tg))
 |_=>none
def Mh{es:Z (Z V)}:(AV g es tg).Good:=by
 refine⟨rfl,rfl,aW _,(λp hp=>by cases hp),λp hp=>?_,rfl,λv hv=>?_⟩
 . simp only[AV,ay]at hp;subst hp;exact⟨rfl,rfl⟩
 . simp only[AV,ay]at hv;subst hv;rfl
def PQ{D:EmbD}(h:Hg g vs C=some D):∃ es tg,D=AV g es tg/\D.Good/\D.Fits vs C:=by
 unfold Hg at h;split at h
 . rename_i es tg;simp only[bE,aJ]at h;obtain⟨M,h⟩:=h;cases h;refine⟨es,tg,rfl,Mh,rfl,λi j hi=>?_,(λp hp=>by cases hp),λi hi=>?_,λi hi=>?_⟩
   . simp only[AV]at hi;omega
   . simp only[AV]at hi;have:i=0:=by omega
     subst this;exact M
   . simp only[AV]at hi;omega
 . cases h
section
variable {es:Z (Z V)}
@[simp] def zAZ:(AV g es tg).val C=.func g [.ptr C.n 0 0]:=(rfl)
@[simp] def zyq:(AV g es tg).heap C={ H:=C.H.set C.n (jm (.sl es tg)),n:=C.n+1,log:=C.n::C.log }:=(rfl)
@[simp] def zHR:Hg g [.sl es tg] C=gd (ig C C.n) (some (AV g es tg)):=(rfl)
end
def VH(rec:G->Nat->Nat)(cG:Nat):Z G->Nat->Nat
 | [],n=>n
 |x::l,n=>if n<=cG then VH rec cG l (n+rec x (cG-n))else n
def WI(w:G->G):Nat->G->Nat->Nat
 | 0,_,cG=>cG+1
 |f+1,t,cG=>min (VH (WI w f) cG (w t).args 1) (cG+1)
def MX (rec:G->Y G):Z G->Y (Z G)
 | []=>some []
 | x::l=>match rec x,MX rec l with
   |some y,some m=>some (y::m)
   |_,_=>none
def Tt (w:G->G):Nat->G->Y G
 | 0,_=>none
 | f+1,t=>match MX (Tt w f) (w t).args with
   |some l=>some (.mk (w t).kind (w t).name (w t).id (w t).home l)
   |none=>none
section
variable {w:G->G}
theorem Tq{p q:G->Y G}(h:∀ t r,p t=some r->q t=some r):∀ {l m:Z G},MX p l=some m->MX q l=some m:=by
 intro l
 induction l with
 |nil=>intro m h;exact h
 | cons x l ih =>
   grind [MX]
theorem ziV:∀ {f:Nat} {t r:G},Tt w f t=some r->Tt w (f+1) t=some r:=by
 intro f
 induction f with
 |zero=>intro t r h;cases h
 | succ f ih =>
   grind [Tt,Tq]
theorem ziW(hfg:f<=g){t r:G}(h:Tt w f t=some r):Tt w g t=some r:=by
 induction hfg with
 |refl=>exact h
 |step _ ih=>exact ziV ih
def Rz(w:G->G)(t r:G):Prop:=∃ f,Tt w f t=some r
inductive B7 (w:G->G):List G->List G->Prop
 |nil:B7 w [] []
 |cons {x y:G} {l m:List G}:Rz w x y->B7 w l m->B7 w (x::l) (y::m)
def B7.of:∀ {l m:Z G},MX (Tt w f) l=some m->B7 w l m:=by
 intro l
 induction l with
 |nil=>intro m h;cases h;exact .nil
 | cons x l ih =>
   intro m h;unfold MX at h;split at h
   . rename_i y m' M O;cases h;exact .cons ⟨f,M⟩ (ih O)
   . cases h
theorem B7.to{l m:Z G}(h:B7 w l m):∃ f,MX (Tt w f) l=some m:=by
 induction h with
 |nil=>exact⟨0,rfl⟩
 | @cons x y l m M O ih =>
   obtain⟨f,M⟩:=M;obtain⟨g,ih⟩:=ih;refine⟨max f g,?_⟩
   grind [MX,ziW,Nat.le_max_left,Tq,Nat.le_max_right]
def Z0{t r:G}:Rz w t r↔∃ l,B7 w (w t).args l/\r=.mk (w t).kind (w t).name (w t).id (w t).home l:=by
 constructor
 . rintro ⟨f,h⟩
   cases f with
   |zero=>cases h
   | succ f =>
     rw[Tt]at h;split at h
     . rename_i l hl;cases h;exact⟨l,.of hl,rfl⟩
     . cases h
 . rintro ⟨l,h,rfl⟩;obtain⟨f,h⟩:=h.to;exact⟨f+1,by rw[Tt,h]⟩
def B7.ziE{l m:Z G}(h:B7 w l m):l.length=m.length:=by
 induction h with
 |nil=>rfl
 |cons _ _ ih=>simp[ih]
theorem zmm{rec:G->Nat->Nat}:∀ (l:Z G) (n:Nat),n<=VH rec cG l n:=by
 intro l
 induction l with
 |nil=>intro n;exact af _
 | cons x l ih =>
   intro n;unfold VH
   grind
theorem Yt:∀ (f:Nat) (t:G) (cG:Nat),cG<f->(∀ r,Rz w t r->WI w f t cG=min r.size (cG+1))/\((¬ ∃ r,Rz w t r)->WI w f t cG=cG+1):=by
 intro f
 induction f with
 |zero=>intro t cG h;omega
 | succ f ih =>
   intro t cG hm
   have zJo:∀ {l rs:Z G},B7 w l rs->∀ n,1<=n->min (VH (WI w f) cG l n) (cG+1)=min (n+G.bj rs) (cG+1):=by
    intro l rs h
    induction h with
    |nil=>intro n _;simp[VH,G.bj]
    | @cons x y l m M O Kd =>
      intro n hn;unfold VH;split
      . rw[(ih x (cG-n) (by omega)).1 y M,Kd _ (by omega)];simp only[G.bj];omega
      omega
   have zJn:∀ {l:Z G},(¬ ∃ rs,B7 w l rs)->∀ n,1<=n->min (VH (WI w f) cG l n) (cG+1)=cG+1:=by
    intro l
    induction l with
    |nil=>intro h;exact absurd ⟨[],.nil⟩ h
    | cons x l Kd =>
      intro h n hn;unfold VH;split
      . by_cases hx:∃ y,Rz w x y
        . obtain⟨y,hy⟩:=hx;refine Kd (λ⟨rs,At⟩=>h ⟨_,.cons hy At⟩) _ (by omega)
        . rw[(ih x (cG-n) (by omega)).2 hx];have:=zmm (rec:=WI w f) (cG:=cG) l (n+(cG-n+1));omega
      . omega
   constructor
   . intro r hr;obtain⟨l,hl,rfl⟩:=Z0.1 hr;rw[WI,zJo hl 1 (af _)];simp only[G.size_eq,G.fC];omega
   . intro h;rw[WI,zJn (λ⟨l,hl⟩=>h ⟨_,Z0.2 ⟨l,hl,rfl⟩⟩) 1 (af _)]
theorem zml{t:G}(hf:cG<f)(hg:cG<g):WI w f t cG=WI w g t cG:=by
 by_cases h:∃ r,Rz w t r
 . grind [Yt]
 simp_all [Yt]
def sz(w:G->G)(t:G)(cG:Nat):Nat:=WI w (cG+1) t cG
theorem zmj(t:G)(cG:Nat):sz w t cG=min (VH (sz w) cG (w t).args 1) (cG+1):=by
 unfold sz;rw[WI]
 congr 1
 have:∀ (l:Z G) (n:Nat),1<=n->VH (WI w cG) cG l n=VH (λt cG=>WI w (cG+1) t cG) cG l n:=by
  intro l
  induction l with
  |nil=>intro n _;rfl
  | cons x l ih =>
    grind [VH,zml]
 exact this _ _ (af _)
def zuj(t:G)(cG:Nat):sz w t cG<=cG+1:=by rw[zmj];omega
theorem zmi(t:G)(cG:Nat):1<=sz w t cG:=by
 rw[zmj];have:=zmm (rec:=sz w) (cG:=cG) (w t).args 1;omega
def RZ{t r:G}(h:Rz w t r)(cG:Nat):sz w t cG=min r.size (cG+1):=(Yt _ t cG (iZ _)).1 r h
def zre{t:G}(h:¬ ∃ r,Rz w t r)(cG:Nat):sz w t cG=cG+1:=(Yt _ t cG (iZ _)).2 h
def zgs{t:G}:sz w t cG<=cG↔∃ r,Rz w t r/\r.size<=cG:=by
 constructor
 . intro h;by_cases hr:∃ r,Rz w t r
   . obtain⟨r,hr⟩:=hr;rw[RZ hr]at h;exact⟨r,hr,by omega⟩
   . rw[zre hr]at h;omega
 . rintro ⟨r,hr,h⟩;rw[RZ hr];omega
end
namespace ao
def T5(s:ao):G->G:=s.kM (s.a9.length+1)
def w(s:ao):G->G:=s.kM s.a9.length
def ll(s:ao):Prop:=s.a9.length<=1000/\∀ x∈s.a9,x.type.ok=true
instance (s:ao):Decidable s.ll:=by unfold ll;infer_instance
theorem zB7{s:ao}(h:s.ll)(t:G):(s.to t).ok=true:=by
 unfold to;split
 . rename_i x hx;obtain⟨i,_,hi,hx⟩:=fY hx;have:=(aM.1 hx).2;exact h.2 x (this ▸ az hi)
 . rfl
theorem Sz{s:ao}(h:s.ll):∀ (n:Nat) {t:G},t.ok=true->(s.kM n t).ok=true:=by
 intro n
 induction n with
 |zero=>intro t ht;exact ht
 | succ n ih =>
   grind [kM,zB7]
end ao
def ia:Z Slot->Z Bool->Nat
 |x::l,b::m=>(if b=true then 0 else x.type.size)+ia l m
 |_,_=>0
theorem Ym:∀ {l:Z Slot} {m:Z Bool} {i:Nat} {x:Slot},l[i]?=some x->m[i]?=some false->ia l (m.set i true)+x.type.size=ia l m:=by
 intro l
 induction l with
 |nil=>intro m i x h;simp at h
 | cons y l ih =>
   intro m i x h O
   cases m with
   |nil=>simp at O
   | cons b m =>
     cases i with
     | zero =>
       grind [ia]
     | succ i =>
       grind [ia]
def KC (s:ao):Nat->G->Z Int×Z Bool->Z Int×Z Bool
 | 0,_,st=>st
 | f + 1,t,st=>if t.kind=1 then
     (if s.bound t=true then (if st.2[t.id.toNat]?=some false then KC s f (s.to t) (st.1,st.2.set t.id.toNat true)else st)
       else if t.id∈st.1 then st else (st.1++[t.id],st.2))
   else t.args.foldl (λst x=>KC s f x st) st
def ao.pM{s:ao}{t:G}(h:s.bound t=true):t.kind=1/\∃ i:Nat,∃ x,t.id=i/\i<s.a9.length/\s.a9[i]?=some x/\x.bound=true/\s.to t=x.type:=by
 unfold ao.bound at h;split at h
 . rename_i x hk hx;obtain⟨i,hi,hl,sd⟩:=ao.fY hx;exact⟨by simpa using hk,i,x,hi,hl,sd,h,by unfold ao.to;rw[hx]⟩
 . cases h
def ZY(s:ao)(c:Nat)(st hs:Z Int×Z Bool):Prop:=hs.2.length=st.2.length/\st.1.length<=hs.1.length/\ia s.a9 hs.2<=ia s.a9 st.2/\hs.1.length+ia s.a9 hs.2<=st.1.length+ia s.a9 st.2+c
theorem ZY.refl{s:ao}{c:Nat}{st:Z Int×Z Bool}:ZY s c st st:=⟨rfl,af _,af _,by omega⟩
def ZY.trans{s:ao}{c:Nat}{a b e:Z Int×Z Bool}(h:ZY s c a b)(h':ZY s d b e):ZY s (c+d) a e:=by
 cases h;obtain⟨g1,g2,g3,g4⟩:=h';exact⟨by omega,by omega,by omega,by omega⟩
def zlu{s:ao}(ih:∀ t st,ZY s t.size st (KC s f t st)):∀ (l:Z G) (st:Z Int×Z Bool),ZY s (G.bj l) st (l.foldl (λst x=>KC s f x st) st):=by
 intro l
 induction l with
 |nil=>intro st;exact .refl
 | cons x l Kd =>
   intro st;simp only[fQ,G.bj];exact(ih x st).trans (Kd _)
def zdr (s:ao):∀ (f:Nat) (t:G) (st:Z Int×Z Bool),ZY s t.size st (KC s f t st):=by
 intro f
 induction f with
 |zero=>intro t st;exact .refl
 | succ f ih =>
   intro t st;rw[KC];split
   . split
     . rename_i hb;split
       . rename_i hd;obtain⟨_,i,x,hi,hl,hx,_,s6⟩:=ao.pM hb;rw[hi,bP]at hd ⊢;rw[s6];have M:=Ym hx hd;obtain⟨k1,k2,k3,k4⟩:=ih x.type (st.1,st.2.set i true);simp only[List.length_set]at k1 k2 k3 k4;exact⟨k1,k2,by omega,by omega⟩
       . exact .refl
     . split
       . exact .refl
       . have:=G.size_pos t;exact⟨rfl,by simp,af _,by simp;omega⟩
   . have h:=zlu ih t.args st;obtain⟨k1,k2,k3,k4⟩:=h;have:=G.size_eq t;exact⟨k1,k2,k3,by omega⟩
def nR(s:ao)(l:Z G):Z Int:=(l.foldl (λst x=>KC s 100000 x st) (([]:Z Int),List.replicate s.a9.length false)).1
def tO(s:ao)(l:Z G):Prop:=s.ll/\G.eK l=true/\l.length<=10000/\G.bj l+ia s.a9 (List.replicate s.a9.length false)<=100000
instance (s:ao)(l:Z G):Decidable (tO s l):=by unfold tO;infer_instance
namespace ao
def nH(s:ao)(t:G):Bool:=decide (t.kind=1)&&(s.cg t.id).isSome
def fO(s:ao)(i:Int):Slot:=(s.cg i).getD zup
def fg(x y:G):Prop:=x.kind≠y.kind\/x.name≠y.name\/x.id≠y.id\/x.home≠y.home\/x.args.length≠y.args.length
instance (x y:G):Decidable (fg x y):=by unfold fg;infer_instance
theorem zY{s:ao}{t:G}(h:s.bound t=true):t.kind=1:=(Dy h).1
def below(s:ao)(u t:G):Prop:=(s.bound t=true/\u=s.to t)\/(s.bound t=false/\u∈t.args)
def Fin(s:ao)(t:G):Prop:=Acc s.below t
def Fin.ind{s:ao}{p:G->Prop}(hb:∀ t,s.bound t=true->p (s.to t)->p t)(hn:∀ t,s.bound t=false->(∀ u∈t.args,p u)->p t){t:G}(h:s.Fin t):p t:=by
 induction h with
 | intro t _ ih =>
   cases hh:s.bound t with
   |true=>exact hb t hh (ih _ (.inl ⟨hh,rfl⟩))
   |false=>exact hn t hh λu hu=>ih u (.inr ⟨hh,hu⟩)
theorem Fin.RT{s:ao}{t:G}(hb:s.bound t=true)(h:s.Fin (s.to t)):s.Fin t:=.intro t λu hu=>by
 rcases hu with⟨_,rfl⟩|⟨M,_⟩
 . exact h
 . rw[hb]at M;cases M
def Fin.zzU{s:ao}{t:G}(hb:s.bound t=false)(h:∀ u∈t.args,s.Fin u):s.Fin t:=.intro t λu hu=>by
 rcases hu with⟨M,_⟩|⟨_,M⟩
 . rw[hb]at M;cases M
 . exact h u M
inductive Reach (s:ao) (id:Int):G->Prop
 |here {t:G}:t.kind=1->t.id=id->Reach s id t
 |to {t:G}:s.bound t=true->Reach s id (s.to t)->Reach s id t
 |arg {t u:G}:s.bound t=false->u∈t.args->Reach s id u->Reach s id t
structure zFp(s s':ao)(id:Int)(t:G):Prop where
 other:∀ u:G,¬ (u.kind=1/\u.id=id)->s'.bound u=s.bound u/\(s.bound u=true->s'.to u=s.to u)
 self:∀ u:G,u.kind=1->u.id=id->s'.bound u=true/\s'.to u=t
def zFp.zKv{s s':ao}{id:Int}{t:G}(h:zFp s s' id t){u:G}(hu:s.Fin u):¬ Reach s id u->s'.Fin u:=by
 have:∀ u,s.Fin u->(¬ Reach s id u->s'.Fin u):=λu hu=>by
  refine Fin.ind (p:=λu=>¬ Reach s id u->s'.Fin u) (λu hb ih hr=>?_) (λu hb ih hr=>?_) hu
  . obtain⟨M,O⟩:=h.other u λhh=>hr (.here hh.1 hh.2)
    refine Fin.RT (M.trans hb) ?_;rw[O hb];exact ih λhh=>hr (.to hb hh)
  . obtain⟨M,_⟩:=h.other u λhh=>hr (.here hh.1 hh.2)
    exact Fin.zzU (M.trans hb) λx hx=>ih x hx λhh=>hr (.arg hb hx hh)
 exact this u hu
theorem zFp.fin{s s':ao}{id:Int}{t:G}(h:zFp s s' id t)(ht:s.Fin t)(hr:¬ Reach s id t){u:G}(hu:s.Fin u):s'.Fin u:=by
 have ht':=h.zKv ht hr;refine Fin.ind (p:=s'.Fin) (λu hb ih=>?_) (λu hb ih=>?_) hu
 . by_cases hi:u.kind=1/\u.id=id
   . obtain⟨M,O⟩:=h.self u hi.1 hi.2
     grind [Fin.RT]
   . obtain⟨M,O⟩:=h.other u hi
     grind [Fin.RT]
 . by_cases hi:u.kind=1/\u.id=id
   . obtain⟨M,O⟩:=h.self u hi.1 hi.2
     grind [Fin.RT]
   . exact Fin.zzU ((h.other u hi).1.trans hb) ih
inductive Ends (s:ao):G->Nat->Prop
 |stop {t:G}:s.bound t=false->Ends s t 0
 |step {t:G} {d:Nat}:s.bound t=true->Ends s (s.to t) d->Ends s t (d+1)
def Ends.uniq{s:ao}{t:G}(h:Ends s t d):∀ {e:Nat},Ends s t e->d=e:=by
 induction h with
 | stop hb =>
   intro e O
   cases O with
   |stop=>rfl
   |step pZ _=>rw[hb]at pZ;cases pZ
 | step hb _ ih =>
   intro e O
   cases O with
   |stop pZ=>rw[hb]at pZ;cases pZ
   |step _ h3=>rw[ih h3]
def Fin.ends{s:ao}{t:G}(h:s.Fin t):∃ d,Ends s t d :=
 Fin.ind (p:=λt=>∃ d,Ends s t d) (λ_ hb ⟨d,hd⟩=>⟨d+1,.step hb hd⟩) (λ_ hb _=>⟨0,.stop hb⟩) h
theorem zcP{s:ao}{t u:G}(ht:s.bound t=true)(hk:u.kind=1)(hi:u.id=t.id):s.bound u=true/\s.to u=s.to t:=by
 obtain⟨M,x,O,h3⟩:=Dy ht;refine⟨?_,?_⟩
 . grind [Jt]
 . unfold ao.to;rw[hi]
theorem Ends.id{s:ao}{t u:G}{e:Nat}(ht:Ends s t (d+1))(hu:Ends s u (e+1))(hi:t.id=u.id):d=e:=by
 cases ht with
 | step hb M =>
   cases hu with
   | step pZ O =>
     obtain⟨_,e1⟩:=zcP hb (zY pZ) hi.symm;rw[e1]at O;exact M.uniq O
theorem zef:∀ (n:Nat) (l:Z Nat),l.Nodup->(∀ x∈l,x<n)->l.length<=n:=by
 intro n
 induction n with
 | zero =>
   intro l _ h
   cases l with
   |nil=>exact af _
   |cons x l=>exact absurd (h x (aD ..)) (lQ _)
 | succ n ih =>
   intro l hn h
   have M:=ih (l.erase n) (hn.erase n) λx hx=>by
    grind
   grind
theorem Ends.ids{s:ao}{t:G}(h:Ends s t d):∃ l:Z Nat,l.length=d/\l.Nodup/\∀ x∈l,x<s.a9.length/\∃ u e,Ends s u (e+1)/\e<d/\u.id=(x:Int):=by
 induction h with
 |stop _=>exact⟨[],rfl,kL,λx hx=>by cases hx⟩
 | @step t d hb M ih =>
   obtain⟨l,O,h3,h4⟩:=ih;obtain⟨_,x,hx,_⟩:=Dy hb;obtain⟨i,hi,cA,_⟩:=fY hx;refine⟨i::l,by simp[O],iH.2 ⟨λhm=>?_,h3⟩,λy hy=>?_⟩
   . obtain⟨_,u,e,h5,h6,h7⟩:=h4 i hm;have:=Ends.id (.step hb M) h5 (by rw[hi,h7]);omega
   . rcases aB.1 hy with rfl|hy
     . exact⟨cA,t,d,.step hb M,by omega,hi⟩
     grind
def Ends.le{s:ao}{t:G}(h:Ends s t d):d<=s.a9.length:=by
 obtain⟨l,M,O,h3⟩:=h.ids;rw[<- M];exact zef _ l O λx hx=>(h3 x hx).1
theorem Ends.walk {s:ao} {t:G}  (h:Ends s t d):∀ n,d<=n->s.kM n t=s.kM d t/\s.bound (s.kM d t)=false:=by
 induction h with
 | @stop t hb =>
   intro n _;refine⟨?_,hb⟩
   cases n with
   |zero=>rfl
   |succ n=>show s.kM (n+1) t=t;unfold ao.kM;rw[hb];rfl
 | @step t d hb M ih =>
   intro n hn
   cases n with
   |zero=>omega
   | succ n =>
     have:=ih n (by omega)
     have e1:∀ m,s.kM (m+1) t=s.kM m (s.to t):=λm=>by
      show (if s.bound t=true then _ else _)=_;rw[if_pos hb]
     grind
theorem Fin.walk{s:ao}{t:G}(h:s.Fin t):s.bound (s.T5 t)=false/\s.w t=s.T5 t:=by
 obtain⟨d,hd⟩:=h.ends;have M:=hd.walk (s.a9.length+1) (by have:=hd.le;omega);have O:=hd.walk s.a9.length hd.le
 simp_all [T5,w]
end ao
inductive yp:G->G->Prop
 |self {t:G}:t.kind=1->yp t t
 |arg {t u x:G}:t.kind≠1->x∈t.args->yp u x->yp u t
def yp.var{u t:G}(h:yp u t)(hk:t.kind=1):u=t:=by
 cases h with
 |self _=>rfl
 |arg h _ _=>exact absurd hk h
namespace ao
abbrev St:=Z Int×Z Bool
def L3(s:ao)(st:St)(t:G):Prop:=∀ u,yp u t->(s.bound u=true->st.2[u.id.toNat]?=some true)/\(s.bound u=false->u.id∈st.1)
def Inv(s:ao)(st:St)(cL:Z Nat):Prop:=∀ (i:Nat) (x:Slot),s.a9[i]?=some x->x.bound=true->st.2[i]?=some true->i ∉ cL->s.L3 st x.type
structure VD(st hs:St):Prop where
 out:∀ v∈st.1,v∈hs.1
 done:∀ i:Nat,st.2[i]?=some true->hs.2[i]?=some true
 len:hs.2.length=st.2.length
theorem VD.refl{st:St}:VD st st:=⟨λ_ h=>h,λ_ h=>h,rfl⟩
def VD.trans{a b c:St}(h:VD a b)(k:VD b c):VD a c:=⟨λv hv=>k.out v (h.out v hv),λi hi=>k.done i (h.done i hi),k.len.trans h.len⟩
theorem L3.mono{s:ao}{st hs:St}{t:G}(h:s.L3 st t)(m:VD st hs):s.L3 hs t:=λu hu=>⟨λhb=>m.done _ ((h u hu).1 hb),λhb=>m.out _ ((h u hu).2 hb)⟩
theorem Inv.mono{s:ao}{st hs:St}(h:s.Inv st cL)(m:VD st hs)(hd:∀ i,hs.2[i]?=some true->i ∉ cL->st.2[i]?=some true):s.Inv hs cL :=
 λi x hx hb hi hG=>(h i x hx hb (hd i hi hG) hG).mono m
structure zK4(s:ao)(P:Int->Prop)(cL:List Nat)(st hs:St):Prop where
 mono:VD st hs
 inv:s.Inv hs cL
 out:∀ v∈hs.1,v∈st.1\/P v
 ia:J.ia s.a9 hs.2<=J.ia s.a9 st.2
def zqI{s:ao}(ih:∀ (t:G) (st:St),(∀ u,yp u t->P u.id)->t.size+J.ia s.a9 st.2<=f->st.2.length=s.a9.length->s.Inv st cL->zK4 s P cL st (KC s f t st)/\s.L3 (KC s f t st) t) :
 ∀ (l:Z G) (st:St),(∀ x∈l,∀ u,yp u x->P u.id)->G.bj l+J.ia s.a9 st.2<=f->st.2.length=s.a9.length->s.Inv st cL ->
   zK4 s P cL st (l.foldl (λst x=>KC s f x st) st)/\∀ x∈l,s.L3 (l.foldl (λst x=>KC s f x st) st) x:=by
 intro l
 induction l with
 |nil=>intro st _ _ _ hi;exact⟨⟨.refl,hi,λv hv=>.inl hv,af _⟩,λx hx=>by cases hx⟩
 | cons a l tf =>
   intro st hP hf hl hi;simp only[G.bj]at hf;obtain⟨M,O⟩:=ih a st (hP a (aD ..)) (by omega) hl hi;have h1u:=M.ia;obtain⟨h3,h4⟩:=tf (KC s f a st) (λx hx=>hP x (aF _ hx)) (by omega) (M.mono.len.trans hl) M.inv;rw[fQ];refine⟨⟨M.mono.trans h3.mono,h3.inv,λv hv=>?_,aO h3.ia M.ia⟩,λx hx=>?_⟩
   . rcases h3.out v hv with h|h
     . exact M.out v h
     . exact .inr h
   . rcases aB.1 hx with rfl|hx
     . exact O.mono h3.mono
     . exact h4 x hx
theorem zqH {s:ao}  (hP:∀ x∈s.a9,x.bound=true->∀ u,yp u x.type->P u.id):∀ (f:Nat) (cL:Z Nat) (t:G) (st:St),(∀ u,yp u t->P u.id)->t.size+J.ia s.a9 st.2<=f->st.2.length=s.a9.length->s.Inv st cL ->
 zK4 s P cL st (KC s f t st)/\s.L3 (KC s f t st) t:=by
 intro f
 induction f with
 |zero=>intro cL t st _ hf;have:=G.size_pos t;omega
 | succ f ih =>
   intro cL t st zMj hf hl hi;have b8:=G.size_pos t;rw[KC];split
   . rename_i hk;split
     . rename_i hb;obtain⟨_,i,x,hid,cA,hx,z7,s6⟩:=pM hb;have zxp:t.id.toNat=i:=by rw[hid];rfl
       rw[zxp,s6];split
       . rename_i hd;have M:=Ym hx hd
         have m1:VD st (st.1,st.2.set i true):=⟨λ_ h=>h,λj hj=>by
          rw[mG];split
          . rename_i e;subst e;rw[if_pos (by rw[hl];exact cA)]
          . exact hj,by simp⟩
         have ss:s.Inv (st.1,st.2.set i true) (i::cL):=λj y hy hyb hj hG=>by
          have cb:j≠i:=λe=>hG (by simp[e])
          have js:st.2[j]?=some true:=by
           grind
          exact(hi j y hy hyb js λh=>hG (aF _ h)).mono m1
         obtain⟨r1,r2⟩:=ih (i::cL) x.type (st.1,st.2.set i true) (hP x (aC hx) z7) (by simp only;omega) (by simp[hl]) ss;have X2:(KC s f x.type (st.1,st.2.set i true)).2[i]?=some true:=r1.mono.done i (by simp[hl,cA]);refine⟨⟨m1.trans r1.mono,λj y hy hyb hj hG=>?_,r1.out,by have:=r1.ia;simp only at this;omega⟩,λu hu=>?_⟩
         . by_cases e:j=i
           . grind
           . exact r1.inv j y hy hyb hj (by simp[e,hG])
         . rw[hu.var hk,zxp]
           grind
       . rename_i hd;refine⟨⟨.refl,hi,λv hv=>.inl hv,af _⟩,λu hu=>?_⟩;rw[hu.var hk,zxp]
         simp_all
     . rename_i hb;split
       . rename_i hm;refine⟨⟨.refl,hi,λv hv=>.inl hv,af _⟩,λu hu=>?_⟩;rw[hu.var hk]
         grind
       . have m1:VD st (st.1++[t.id],st.2):=⟨λv hv=>jo _ hv,λj hj=>hj,rfl⟩;refine⟨⟨m1,hi.mono m1 λj hj _=>hj,λv hv=>?_,af _⟩,λu hu=>?_⟩
         . rcases bA.1 hv with h|h
           . exact .inl h
           . rw[ay.1 h];exact .inr (zMj t (.self hk))
         . rw[hu.var hk]
           grind
   . rename_i hk;have v5:=G.size_eq t;obtain⟨M,O⟩:=zqI (λt st=>ih cL t st) t.args st (λx hx u hu=>zMj u (.arg hk hx hu)) (by omega) hl hi;refine⟨M,λu hu=>?_⟩
     cases hu with
     |self h=>exact absurd h hk
     |arg _ hx zNL=>exact O _ hx u zNL
end ao
end Go.J
