import Derived.Test.YtfloillkpbhhhaaGreatJK7
set_option linter.all false
noncomputable section
namespace Go.J
open bo (enc)
variable {ps:Array Tmp}{ts:Array TypeId}{t tg y:Bool}{K:Bool->HS->Prop}{E:Env}{Q:Ex->PT V->HS->Prop}{C:HS}{m n x4:Int}{P:Int->Prop}{L bx d f g i k cL o:Nat}{A:Nat->Bool}{π:Nat->Nat}{I:Nat->Value}{p:Nat×Obj}{q:Nat×Z (Z V)}{H H0:PT Obj}{JJ:PT Obj->Nat->Prop}{T T1:PT V}{x:Slot}{α:Type}{v:V}{K':V->HS->Prop}{HL OL cJ l:Z (Nat×Obj)}{TL:Z (Nat×V)}{b x2 x3 x5 x6:Z (Z V)}{r:Z (Z V)×Z V}{x1 cN:Z Nat}{a c vs eb:Z V}{s:wA}
def N6(id:Nat)(es:Z (Z V)):V:=.own id 0 0 es.length (some es.length)
def Lm(sz:Nat)(es:Z (Z V)):Obj:=.arr sz 0 es true false true
def ztq(sz m id n:Nat)(o:Obj):Y (Nat×Z (Z V)) :=
 match o with
 |.arr s 0 es true false true=>gd (et (Nat.beq s sz) (et (Nat.beq n (dB es)) (et (Nat.blt id m) (es.all λe=>e.all V.bN)))) (some (id,es))
 |_=>none
def zkH(sz:Nat)(C:HS)(v:V):Y (Nat×Z (Z V)) :=
 match v with
 |.own id 0 0 n (some m)=>gd (Nat.beq n m) (ob (C.H.get id) λo=>ztq sz C.n id n o)
 |_=>none
def zoG{sz:Nat}(h:zkH sz C v=some q):v=N6 q.1 q.2/\C.H.get q.1=some (Lm sz q.2)/\q.1<C.n/\(q.2.all λe=>e.all V.bN)=true:=by
 unfold zkH at h;split at h;rename_i id n m;simp only[bI,aC,beq_true]at h;obtain⟨rfl,o,ho,h⟩:=h;unfold ztq at h;split at h;rename_i s es;simp only[bI,dz,beq_true,gz]at h;obtain⟨⟨rfl,h4,h5,h6⟩,h⟩:=h;cases h;rw[dH]at h4;subst h4;exact⟨rfl,ho,h5,h6⟩;cases h;cases h
def DO (p sz:Nat) (F:Z (Z V)->Z V->Y (Z (Z V)×V)):Spec:=λvs C =>
 ob (wu vs p) λv=>ob (zkH sz C v) λq=>gd (bX (vs.eraseIdx p)) (ob (F q.2 (vs.eraseIdx p)) λr =>
  gd (et (r.1.all λe=>e.all V.bN) (et (r.2.sS λ_=>false) (Nat.beq (dB r.1) (dB q.2)))) (some (r.2,C.wr q.1 (Lm sz r.1))))
section
variable {f:FuncId}{fn:Func}{sc:SC}{pre post:Z V}{r:V}{es cT:Z (Z V)}{sz:Nat}
theorem zh5(h:(es.all λe=>e.all V.bN)=true):(Lm sz es).cw π=Lm sz es:=by
 show Obj.arr _ _ (es.map λe=>e.map (V.jr π)) _ _ _=_;rw[AY λx W v hv=>V.jF (au.1 (au.1 h x W) v hv)];rfl
theorem zoH(h:(es.all λe=>e.all V.bN)=true):(Lm sz es).in A=true:=by
 exact h
theorem zyv (hρ:Good I) (aq:bK I E) (hP:E.P.follows .mixedOrders=true) (hN:vX E.P) (hf:E.P.funcs[f]?=some fn) (hb:fn.body.bind aV=some sc) (he:jH fn.ntmps (pre++N6 0 es::post) 0 .leaf=some T) (hp:bX (pre++post)=true)
 (hc:(es.all λe=>e.all V.bN)=true) (wq:(cT.all λe=>e.all V.bN)=true) (hl:cT.length=es.length) (hr:r.sS (λ_=>false)=true)
 (h:Wp I E 1 fn.ntmps sc T { H:=dP [(0,Lm sz es)],n:=1,log:=[] } (Leaves E.P fn (aJ 1 r [(0,Lm sz cT)])))  {id:Nat} (hid:id<C.n) (hg:C.H.get id=some (Lm sz es)) :
 aS I E.P f (pre++N6 id es::post) C r (C.wr id (Lm sz cT)):=by
 have oX:=jo hp;have M:∀ v∈pre,v.pure=true:=λv hv=>oX v (dQ _ hv);have O:∀ v∈post,v.pure=true:=λv hv=>oX v (eY _ hv)
 have key:=He (k:=1) (k':=1) (OL:=[(0,Lm sz es)]) (cJ:=[(0,Lm sz cT)]) (v0:=r) (eb:=pre++N6 0 es::post) hf hb he (Eb hρ aq hP hN h) rfl rfl (af _)
  (λp hp=>by simp only[ag]at hp;subst hp;exact zoH hc)
  (λp hp=>by simp only[ag]at hp;subst hp;exact⟨zoH wq,rfl⟩)
  (V.Bq (λ_ h=>by cases h) hr)
  (λv hv=>by
    rcases bu.1 hv with hv|hv;exact V.dU (M v hv);rcases ay.1 hv with rfl|hv;rfl
    exact V.dU (O v hv))
  (C:=C) (π:=λ_=>id) (λi j hi hj _=>by omega) (λp hp=>by simp only[ag]at hp;subst hp;rw[zh5 hc];exact hg) (λi hi=>absurd hi (by omega)) (λ_ _=>hid)
 rw[V.jq hr]at key;have e1:(pre++N6 0 es::post).map (V.cw λ_=>id)=pre++N6 id es::post:=by rw[fe,aX,map_id' λv hv=>V.jq (V.dU (M v hv)),map_id' λv hv=>V.jq (V.dU (O v hv))];rfl
 rw[e1]at key;have e2:DV C 1 1 (λ_=>id) [(0,Lm sz cT)]=C.wr id (Lm sz cT):=by show ({ H:=(C.H.set (news C.n 1 (λ_=>id) 0) ((Lm sz cT).cw _)),n:=C.n+0,log:=[news C.n 1 (λ_=>id) 0]++C.log }:HS)=_;rw[zh5 wq];rfl
 grind
end
def znH{p:Nat}(h:vs[p]?=some v):∃ pre post,vs=pre++v::post/\vs.eraseIdx p=pre++post/\pre.length=p:=by
 have hl:p<vs.length:=(aM.1 h).1;refine⟨vs.take p,vs.drop (p+1),?_,List.eraseIdx_eq_take_drop_succ ..,by rw[dR];omega⟩;have e:vs[p]=v:=(aM.1 h).2;rw[<- e];simp
def Valid.mt{P:Program}{p sz:Nat}{F:Z (Z V)->Z V->Y (Z (Z V)×V)}(hf:vM P f)
 (h:∀ es pre post r,pre.length=p->bX (pre++post)=true->(es.all λe=>e.all V.bN)=true->F es (pre++post)=some r->(r.1.all λe=>e.all V.bN)=true->r.2.sS (λ_=>false)=true->r.1.length=es.length ->
   ∀ (C:HS) (id:Nat),id<C.n->C.H.get id=some (Lm sz es)->aS I P f (pre++N6 id es::post) C r.2 (C.wr id (Lm sz r.1))):Valid I P f (DO p sz F) where
 fn:=hf
 ok:=by intro vs C v a9 hq;simp only[DO,bI,aC,dz,sP,beq_true,dH]at hq;let⟨v0,ka,q,O2,DR,r,hr,⟨k1,k2,k3⟩,hq⟩:=hq;cases hq;obtain⟨rfl,g1,g2,g3⟩:=zoG O2;let⟨pre,post,e1,e2,e3⟩:=znH ka;rw[e2]at DR hr;rw[e1];exact h _ _ _ _ e3 DR g3 hr k1 k2 k3 C _ g2 g1
 kept:=by
  intro vs C q hq;simp only[DO,bI,aC]at hq;let⟨v0,ka,q,O2,_,r,hr,_,hq⟩:=hq;cases hq;exact o9 ..
section
variable {p sz:Nat}{F:Z (Z V)->Z V->Y (Z (Z V)×V)}{Q:V×HS->Prop}
@[simp] def zLg:BO (DO p sz F vs C) Q=BO (wu vs p) λv=>BO (zkH sz C v) λq=>bX (vs.eraseIdx p)=true/\BO (F q.2 (vs.eraseIdx p)) λr =>
 ((r.1.all λe=>e.all V.bN)=true/\r.2.sS (λ_=>false)=true/\r.1.length=q.2.length)/\Q (r.2,C.wr q.1 (Lm sz r.1)):=by
  show ok (DO p sz F vs C) Q=ok (wu vs p) λv=>ok (zkH sz C v) λq=>bX (vs.eraseIdx p)=true/\ok (F q.2 (vs.eraseIdx p)) λr =>
   ((r.1.all λe=>e.all V.bN)=true/\r.2.sS (λ_=>false)=true/\r.1.length=q.2.length)/\Q (r.2,C.wr q.1 (Lm sz r.1))
  simp only[DO,vO,iM,dL,dz,beq_true,dH]
@[simp] def zFf {n m:Nat}:zkH sz C (.own i 0 0 n (some m))=gd (Nat.beq n m) (ob (C.H.get i) λo=>ztq sz C.n i n o):=(rfl)
@[simp] def zLk {m n s:Nat} {es:Z (Z V)}:ztq sz m i n (.arr s 0 es true false true)=gd (et (Nat.beq s sz) (et (Nat.beq n (dB es)) (et (Nat.blt i m) (es.all λe=>e.all V.bN)))) (some (i,es)):=(rfl)
end
structure EmbD where
 k:Nat
 k':Nat
 π:Nat->Nat
 OL:List (Nat×Obj)
 cJ:List (Nat×Obj)
 eb:List V
 v0:V
structure EmbD.Fits(D:EmbD)(vs:List V)(C:HS):Prop where
 args:D.eb.map (V.cw D.π)=vs
 inj:∀ i j,i<D.k->j<D.k->D.π i=D.π j->i=j
 obj:∀ p∈D.OL,C.H.get (D.π p.1)=some (p.2.cw D.π)
 zDw:∀ i,i<D.k'-D.k->C.H.get (C.n+i)=none
 lt:∀ i,i<D.k->D.π i<C.n
structure EmbD.Good(D:EmbD):Prop where
 ol:D.OL.map Prod.fst=List.range D.k
 zEN:D.cJ.map Prod.fst=List.range D.k'
 le:D.k<=D.k'
 RK:∀ p∈D.OL,p.2.in (cx D.OL)=true
 zo4:∀ p∈D.cJ,p.2.in (cx D.cJ)=true/\p.2.fz=false
 v0:D.v0.sS (cx D.cJ)=true
 eb:∀ v∈D.eb,v.sS (cx D.OL)=true
def sI(cI:Z V->HS->Y EmbD):Spec:=λvs C=>ob (cI vs C) λD=>some (D.v0.cw (news C.n D.k D.π),DV C D.k D.k' D.π D.cJ)
theorem X4{id:Nat}(h:H.get id≠none):∀ l:Z (Nat×Obj),(yH H l).get id≠none:=by
 intro l
 induction l with
 |nil=>exact h
 | cons p l ih =>
   show ((yH H l).set p.1 p.2).get id≠none;rw[PT.cZ];grind
def YJ{k':Nat}:Kept C (DV C k k' π cJ) where
 log i hi:=eY _ hi
 obj i o ho hn:=by
  show (yH C.H _).get i=some o
  rw[Jq (λp hp e=>hn (by
   obtain⟨q,hq,rfl⟩:=aF.1 hp
   exact dQ _ (aF.2 ⟨q,hq,e⟩)))]
  exact ho
 le:=fG ..
 hm i hi:=X4 hi _
def zgg{f:FuncId}{fn:Func}{sc:SC}{D:EmbD}(hρ:J.Good I)(aq:bK I E)(hP:E.P.follows .mixedOrders=true)(hN:vX E.P)(hf:E.P.funcs[f]?=some fn)(hb:fn.body.bind aV=some sc)(he:jH fn.ntmps D.eb 0 .leaf=some T)
 (hg:D.Good) (h:Wp I E D.k fn.ntmps sc T { H:=dP D.OL,n:=D.k,log:=[] } (Leaves E.P fn (aJ D.k D.v0 D.cJ)))   (b4:D.Fits vs C) :
 aS I E.P f vs C (D.v0.cw (news C.n D.k D.π)) (DV C D.k D.k' D.π D.cJ):=by
 rw[<- b4.args];exact He hf hb he (Eb hρ aq hP hN h) hg.ol hg.zEN hg.le hg.RK hg.zo4 hg.v0 hg.eb b4.inj b4.obj b4.zDw b4.lt
def Valid.Ft{P:Program}{cI:Z V->HS->Y EmbD}(hf:vM P f)(h:∀ vs C D,cI vs C=some D->aS I P f vs C (D.v0.cw (news C.n D.k D.π)) (DV C D.k D.k' D.π D.cJ)):Valid I P f (sI cI) where
 fn:=hf
 ok:=by intro vs C v a9 hq;simp only[sI,aC]at hq;let⟨D,hD,hq⟩:=hq;cases hq;exact h _ _ _ hD
 kept:=by
  intro vs C q hq;simp only[sI,aC]at hq;let⟨D,hD,hq⟩:=hq;cases hq;exact YJ
section
variable {cI:Z V->HS->Y EmbD}{Q:V×HS->Prop}{k':Nat}
def EmbD.heap(D:EmbD)(C:HS):HS:=DV C D.k D.k' D.π D.cJ
def EmbD.val(D:EmbD)(C:HS):V:=D.v0.cw (news C.n D.k D.π)
@[simp] def zJC:BO (sI cI vs C) Q=BO (cI vs C) λD=>Q (D.val C,D.heap C):=by
  show ok (sI cI vs C) Q=ok (cI vs C) λD=>Q (D.v0.cw (news C.n D.k D.π),DV C D.k D.k' D.π D.cJ);simp only[sI,iM,dL]
end
def KE(l:Z Int):((l.map cY).all λe=>e.all V.bN)=true:=zkj l
def zER{sz:Nat}{es:Z (Z V)}(h:(es.all λe=>e.all V.bN)=true):(oO sz es).in A=true:=h
section
variable {s:ao}{tv:V}{n id rd ro:Nat}{out c9:Z Int}{done done':Z Bool}{x:Int}
def uH{es:Z (Z V)}(h:(es.all λe=>e.all V.bN)=true):(es.map λe=>e.map (V.jr π))=es:=AY λx W v hv=>V.jF (au.1 (au.1 h x W) v hv)
@[simp] def zA3 {n:Nat} {c:Y Nat}:rT (.own i g o n c)=i:=(rfl)
@[simp] def zxZ:rT .a8=0:=(rfl)
end
def w7:V->Y Nat
 |.ptr i _ _=>some i
 |.own i _ _ _ _=>some i
 |.map i=>some i
 |.lx i=>some i
 |_=>none
def Hk(v u:V)(k:Nat)(z:Nat):Nat :=
 match w7 v,w7 u with
 |some i,some j=>bif Nat.beq i k then j else z
 |_,_=>z
def B9:Z V->Z V->Nat->Nat->Nat
 |v::vs,u::us,k,z=>Hk v u k (B9 vs us k z)
 |_,_,_,z=>z
def Fi(v u:V)(k z:Nat):Nat :=
 match v,u with
 |.agg a,.agg b=>B9 a b k z
 |.func _ a,.func _ b=>B9 a b k z
 |.tuple a,.tuple b=>B9 a b k z
 |v,u=>Hk v u k z
def H3(T:PT V):Z (Nat×V)->Nat->Nat->Nat
 | [],_,z=>z
 |p::l,k,z=>u6 (H3 T l k z) (λu=>Fi p.2 u k (H3 T l k z)) (T.get p.1)
def zBh(o u:Obj)(k z:Nat):Nat :=
 match o,u with
 |.arr _ _ [e] _ _ false,.arr _ _ [e'] _ _ false=>B9 e e' k z
 |_,_=>z
def RW(H:PT Obj)(π:Nat->Nat):Z (Nat×Obj)->Nat->Nat->Nat
 | [],_,z=>z
 |p::l,k,z=>u6 (RW H π l k z) (λu=>zBh p.2 u k (RW H π l k z)) (H.get (π p.1))
def auto(n:Nat)(TL:Z (Nat×V))(HL:Z (Nat×Obj))(T:PT V)(H:PT Obj)(k:Nat):Nat :=
 bif Nat.blt k n then k else H3 T TL k (RW H (λi=>bif Nat.blt i n then i else H3 T TL i i) HL k k)
@[simp] def zOF {es:Z (V×V)}:Obj.fz (.mp es)=false:=(rfl)
@[simp] def zym:cj []=true:=(rfl)
@[simp] def zv8 {x:Nat} {l:Z Nat}:cj (x::l)=(!(l.any (Nat.beq x))&&cj l):=(rfl)
@[simp] def zBD (n:Nat):Z3 (n:Int)=some n:=(rfl)
section
variable {u:V}{us:Z V}{z j:Nat}
@[simp] def zI1 :w7 (.ptr i g o)=some i:=(rfl)
@[simp] def zI2 {n:Nat} {c:Y Nat}:w7 (.own i g o n c)=some i:=(rfl)
@[simp] def zI3:w7 (.map i)=some i:=(rfl)
@[simp] def zI4 {t:IntKind} :w7 (.int t n)=none:=(rfl)
@[simp] def zFH {b:Bool}:w7 (.bool b)=none:=(rfl)
@[simp] def zI0 {b:Z Nat}:w7 (.str b)=none:=(rfl)
@[simp] def zLH  :w7 (.sl b t)=none:=(rfl)
@[simp] def zFF:w7 .a8=none:=(rfl)
@[simp] def zFG {f:FuncId} {l:Z V}:w7 (.func f l)=none:=(rfl)
@[simp] def zK5 (h:w7 v=some i) (h':w7 u=some j):Hk v u k z=if i=k then j else z:=by
  unfold Hk;rw[h,h'];simp only[]
  cases hb:Nat.beq i k with
  |true=>rw[beq_true]at hb;simp[hb]
  |false=>rw[if_neg (λe=>by rw[beq_true.2 e]at hb;cases hb)];rfl
@[simp] def zx4 (h:w7 v=none):Hk v u k z=z:=by unfold Hk;rw[h]
@[simp] def zK6 (h:w7 u=none):Hk v u k z=z:=by unfold Hk;rw[h];cases w7 v<;>rfl
@[simp] def zsY:B9 [] us k z=z:=by unfold B9;rfl
@[simp] def zoe:B9 (v::vs) (u::us) k z=Hk v u k (B9 vs us k z):=(rfl)
@[simp] def zIj {b:Z V}:Fi (.agg a) (.agg b) k z=B9 a b k z:=(rfl)
@[simp] def zEH {f g:FuncId} {b:Z V}:Fi (.func f a) (.func g b) k z=B9 a b k z:=(rfl)
@[simp] def zBi {b:Z V}:Fi (.tuple a) (.tuple b) k z=B9 a b k z:=(rfl)
@[simp] def zIg :Fi (.ptr i g o) u k z=Hk (.ptr i g o) u k z:=(rfl)
@[simp] def zIh {n:Nat} {c:Y Nat}:Fi (.own i g o n c) u k z=Hk (.own i g o n c) u k z:=(rfl)
@[simp] def zIi {t:IntKind} :Fi (.int t n) u k z=z:=(rfl)
@[simp] def zEI {b:Bool}:Fi (.bool b) u k z=z:=(rfl)
@[simp] def zIf {b:Z Nat}:Fi (.str b) u k z=z:=(rfl)
@[simp] def zK4  :Fi (.sl b t) u k z=z:=(rfl)
@[simp] def zEG:Fi .a8 u k z=z:=(rfl)
@[simp] def zIb :H3 T [] k z=z:=(rfl)
@[simp] def zEE  {p:Nat×V} {l:Z (Nat×V)}:H3 T (p::l) k z=u6 (H3 T l k z) (λu=>Fi p.2 u k (H3 T l k z)) (T.get p.1):=(rfl)
@[simp] def Ab {β:Type} {z:β} {f:α->β} {a:α}:u6 z f (some a)=f a:=(rfl)
@[simp] def zId {a b a' b':Nat} {e e':Z V} {x x' y':Bool}:zBh (.arr a b [e] x y false) (.arr a' b' [e'] x' y' false) k z=B9 e e' k z:=(rfl)
@[simp] theorem zIc {a b:Nat} {es:Z (Z V)} {x:Bool} {o:Obj}:zBh (.arr a b es x y true) o k z=z:=by
  unfold zBh;split;simp_all;rfl
@[simp] def zIe  :RW H π [] k z=z:=(rfl)
@[simp] def zEF    :RW H π (p::l) k z=u6 (RW H π l k z) (λu=>zBh p.2 u k (RW H π l k z)) (H.get (π p.1)):=(rfl)
@[simp] def zJU {n:Nat}    :auto n TL HL T H k=if k<n then k else H3 T TL k (RW H (λi=>if i<n then i else H3 T TL i i) HL k k):=by
  have hb:∀ (i:Nat) (a b:Nat),(bif Nat.blt i n then a else b)=if i<n then a else b:=by
   intro i a b
   cases h:Nat.blt i n with
   |true=>rw[gz]at h;rw[if_pos h];rfl
   |false=>rw[if_neg (λe=>by rw[gz.2 e]at h;cases h)];rfl
  unfold auto;rw[hb];simp only[hb]
end
section
def aw.auto{n:Nat}(hT:∀ p∈TL,p.2.sS (cx HL)=true/\T.get p.1=some (p.2.cw (J.auto k TL HL T C.H)):=by first|(simp;done)|(simp[-Int.natCast_add];done))
 (hH:∀ p∈HL,p.2.in (cx HL)=true/\C.H.get (J.auto k TL HL T C.H p.1)=some (p.2.cw (J.auto k TL HL T C.H)):=by simp) (hi:cj (HL.map λp=>J.auto k TL HL T C.H p.1)=true:=by first|rfl|(simp;done)) (hk:(List.range k).all (λi=>Nat.beq (J.auto k TL HL T C.H i) i&&cx HL i)=true:=by first|rfl|(simp;done)|(simp<;>(intro x W;first|omega|exact⟨.inl W,by omega⟩))) :
 aw k T C (dP TL) { H:=dP HL,n:=n,log:=[] }:=aw.lit _ n hT hH hi hk
end
@[simp] def zB4 :(V.func f []).pure=true:=(rfl)
@[simp] def zzm  :kV C (V.func f [])=some (V.func f []):=(rfl)
@[simp] def zwC  :nU C (V.func f [])=C:=(rfl)
structure Scheme where
 count:Int
 type:G
 deriving DecidableEq
def F6(a:Scheme):Z V:=[.int .i64 a.count,.int .i64 a.type.kind,.str a.type.name,.int .i64 a.type.id,.int .i64 a.type.home,.sl (a.type.args.map aA) false]
def KF(c:Z V):Y Scheme :=
 match c with
 | [.int .i64 x0,.int .i64 x1,.str x2,.int .i64 x3,.int .i64 x4,.sl x5 false]=>ob (eZ x5) λy5=>some ⟨x0,(G.mk x1 x2 x3 x4 y5)⟩
 |_=>none
def R5{x0:Int}{x1:Int}{x2:Z Nat}{x3:Int}:KF [.int .i64 x0,.int .i64 x1,.str x2,.int .i64 x3,.int .i64 x4,.sl x5 false]=ob (eZ x5) λy5=>some ⟨x0,(G.mk x1 x2 x3 x4 y5)⟩:=(rfl)
instance:iI Scheme where
 cells:=F6
 dec:=KF
 dD a:=by simp only[F6,R5,EG,ed,G.eta]
 bB c a h:=by unfold KF at h;split at h;simp only[aC]at h;let⟨y5,RC,h⟩:=h;cases h;have RC:=iZ RC;subst_vars;rfl;cases h
 bN a:=rfl
 norm a:=by simp only[F6,fF,ig,Ez]
instance:bo Scheme:=zf
@[simp] def zzx (a:Scheme):enc a=.agg (F6 a):=(rfl)
@[simp] def zzC :bo.dec (α:=Scheme) (.agg c)=KF c:=(rfl)
@[simp] def zzs (a:Scheme):Scheme.mk a.count a.type=a:=(rfl)
attribute [simp] R5 F6
structure Entry where
 name:List Nat
 scheme:Scheme
 deriving DecidableEq
def dV(a:Entry):Z V:=[.str a.name,.int .i64 a.scheme.count,.int .i64 a.scheme.type.kind,.str a.scheme.type.name,.int .i64 a.scheme.type.id,.int .i64 a.scheme.type.home,.sl (a.scheme.type.args.map aA) false]
def JR(c:Z V):Y Entry :=
 match c with
 | [.str x0,.int .i64 x1,.int .i64 x2,.str x3,.int .i64 x4,.int .i64 x5,.sl x6 false]=>ob (eZ x6) λy6=>some ⟨x0,⟨x1,(G.mk x2 x3 x4 x5 y6)⟩⟩
 |_=>none
def V9{x0:Z Nat}{x1:Int}{x2:Int}{x3:Z Nat}{x5:Int}:JR [.str x0,.int .i64 x1,.int .i64 x2,.str x3,.int .i64 x4,.int .i64 x5,.sl x6 false]=ob (eZ x6) λy6=>some ⟨x0,⟨x1,(G.mk x2 x3 x4 x5 y6)⟩⟩:=(rfl)
instance:iI Entry where
 cells:=dV
 dec:=JR
 dD a:=by simp only[dV,V9,EG,ed,G.eta]
 bB c a h:=by unfold JR at h;split at h;simp only[aC]at h;let⟨y6,zFK,h⟩:=h;cases h;have zFK:=iZ zFK;subst_vars;rfl;cases h
 bN a:=rfl
 norm a:=by simp only[dV,fF,ig,Ez]
instance:bo Entry:=zf
@[simp] def zuP:@iI.dec Entry _=JR:=(rfl)
@[simp] def zCe (a:Entry):enc a=.agg (dV a):=(rfl)
@[simp] def zCk :bo.dec (α:=Entry) (.agg c)=JR c:=(rfl)
@[simp] def zzE (l:Z Entry):eZ (l.map dV)=some l:=qL l
@[simp] def zyj (l:Z Entry):gP (l.map dV)=l.map dV:=kY l
@[simp] def zcG (l:Z Entry):((l.map dV).all λe=>e.all V.bN)=true:=nG l
@[simp] def zzy (l:Z Entry):enc l=.sl (l.map dV) false:=(rfl)
@[simp] def zzD {es:Z (Z V)}:bo.dec (α:=Z Entry) (.sl es false)=eZ es:=(rfl)
@[simp] def znq (l:Z Entry):bj 7 (l.map dV)=true:=by rw[lV];intro e he;obtain⟨a,_,rfl⟩:=aF.1 he;rfl
@[simp] def zHg (l:Z Entry):kJ (l.map dV)=true:=y8 zcG
@[simp] def zB9 (a:Entry):Entry.mk a.name a.scheme=a:=(rfl)
attribute [simp] V9 dV
structure Ctor where
 pos:Int
 name:List Nat
 fields:List G
 deriving DecidableEq
def iK(a:Ctor):Z V:=[.int .i64 a.pos,.str a.name,.sl (a.fields.map aA) false]
def TV(c:Z V):Y Ctor :=
 match c with
 | [.int .i64 x0,.str x1,.sl x2 false]=>ob (eZ x2) λy2=>some ⟨x0,x1,y2⟩
 |_=>none
def YT{x0:Int}:TV [.int .i64 x0,.str x1,.sl x2 false]=ob (eZ x2) λy2=>some ⟨x0,x1,y2⟩:=(rfl)
instance:iI Ctor where
 cells:=iK
 dec:=TV
 dD a:=by simp only[iK,YT,EG,ed,G.eta]
 bB c a h:=by unfold TV at h;split at h;simp only[aC]at h;let⟨y2,hy2,h⟩:=h;cases h;have hy2:=iZ hy2;subst_vars;rfl;cases h
 bN a:=rfl
 norm a:=by simp only[iK,fF,ig,Ez]
instance:bo Ctor:=zf
@[simp] def zGG (a:Ctor):enc a=.agg (iK a):=(rfl)
@[simp] def zGO :bo.dec (α:=Ctor) (.agg c)=TV c:=(rfl)
@[simp] def zlz (l:Z Ctor):eZ (l.map iK)=some l:=qL l
@[simp] def zkz (l:Z Ctor):gP (l.map iK)=l.map iK:=kY l
@[simp] def zCd (l:Z Ctor):enc l=.sl (l.map iK) false:=(rfl)
@[simp] def zCj {es:Z (Z V)}:bo.dec (α:=Z Ctor) (.sl es false)=eZ es:=(rfl)
@[simp] def zHI (l:Z Ctor):bj 3 (l.map iK)=true:=by rw[lV];intro e he;obtain⟨a,_,rfl⟩:=aF.1 he;rfl
attribute [simp] YT iK
structure Decl where
 pos:Int
 name:List Nat
 params:List (List Nat)
 ctors:List Ctor
 deriving DecidableEq
def aT(a:Decl):Z V:=[.int .i64 a.pos,.str a.name,.sl (a.params.map (b5)) false,.sl (a.ctors.map iK) false]
def TU(c:Z V):Y Decl :=
 match c with
 | [.int .i64 x0,.str x1,.sl x2 false,.sl x3 false]=>ob (eZ x2) λy2=>ob (eZ x3) λy3=>some ⟨x0,x1,y2,y3⟩
 |_=>none
def YS{x0:Int}:TU [.int .i64 x0,.str x1,.sl x2 false,.sl x3 false]=ob (eZ x2) λy2=>ob (eZ x3) λy3=>some ⟨x0,x1,y2,y3⟩:=(rfl)
instance:iI Decl where
 cells:=aT
 dec:=TU
 dD a:=by simp only[aT,YS,zlz,zdC,ed,G.eta]
 bB c a h:=by unfold TU at h;split at h;simp only[aC]at h;let⟨y2,hy2,y3,hy3,h⟩:=h;cases h;have hy2:=iZ hy2;have hy3:=iZ hy3;subst_vars;rfl;cases h
 bN a:=rfl
 norm a:=by simp only[aT,fF,ig,zkz,zcN]
instance:bo Decl:=zf
@[simp] def zGF (a:Decl):enc a=.agg (aT a):=(rfl)
@[simp] def zGN :bo.dec (α:=Decl) (.agg c)=TU c:=(rfl)
@[simp] def zCl (l:Z Decl):eZ (l.map aT)=some l:=qL l
@[simp] def zBy (l:Z Decl):gP (l.map aT)=l.map aT:=kY l
@[simp] def zCc (l:Z Decl):enc l=.sl (l.map aT) false:=(rfl)
@[simp] def zCi {es:Z (Z V)}:bo.dec (α:=Z Decl) (.sl es false)=eZ es:=(rfl)
@[simp] def zHH (l:Z Decl):bj 4 (l.map aT)=true:=by rw[lV];intro e he;obtain⟨a,_,rfl⟩:=aF.1 he;rfl
@[simp] def zGv (a:Decl):Decl.mk a.pos a.name a.params a.ctors=a:=(rfl)
attribute [simp] YS aT
def MA(n m:Int):Int:=if m<1 then 0 else n % m
def zcV(n m:Int):0<=MA n m:=by
 unfold MA;split;omega;exact Int.emod_nonneg _ (by omega)
def ztp(h:1<=m):MA n m<m:=by
 unfold MA;rw[if_neg (by omega)];exact Int.emod_lt_of_pos _ (by omega)
def wJ(n:Z Nat)(l:Z G):G:=.mk 4 n 0 0 l
def fU(i:Int):G:=.mk 1 [] i 0 []
def ry(i:Int):G:=.mk 2 [] i 0 []
def oz(h i:Int):G:=.mk 3 [] i h []
def Un:G:=wJ [73,110,116] []
def wo(a b:G):G:=wJ [45,62] [a,b]
def zbX(n m:Int):n % m=n.tmod m % m:=by
 have h:=Int.mul_tdiv_add_tmod n m
 calc n % m=(m*n.tdiv m+n.tmod m) % m:=by rw[h]
  _=n.tmod m % m:=by rw[Int.add_comm,Int.add_mul_emod_self_left]
def tmod_neg(hm:1<=m)(h:n.tmod m<0):n % m=n.tmod m+m:=by
 have M:=Int.lt_tmod_of_pos n (show 0<m by omega);rw[zbX,<- Int.add_emod_right,Int.emod_eq_of_lt (by omega) (by omega)]
def zni(hm:1<=m)(h:0<=n.tmod m):n % m=n.tmod m:=by
 rw[zbX,Int.emod_eq_of_lt h (Int.tmod_lt_of_pos n (by omega))]
def Tp.next(t:Tp)(n:Int):Tp×Int :=
 if t.l.length<=t.i then (t,0)else ({ t with i:=t.i+1 },MA (t.l.getD t.i.toNat 0) n)
def rR(n:Nat):Z G:=(List.range n).map λi=>fU (i:Nat)
def zeC(n:Nat):rR (n+1)=rR n++[fU (n:Nat)]:=by simp[rR,List.range_succ]
@[simp] def zAJ (n:Nat):(rR n).length=n:=by simp[rR]
def La:Z Decl:=[⟨0,[66,111,111,108],[],[⟨12,[84,114,117,101],[]⟩,⟨19,[70,97,108,115,101],[]⟩]⟩,
 ⟨26,[79,112,116,105,111,110],[[97]],[⟨42,[78,111,110,101],[]⟩,⟨49,[83,111,109,101],[.mk 5 [97] 0 0 []]⟩]⟩,
 ⟨57,[76,105,115,116],[[97]],[⟨71,[78,105,108],[]⟩,⟨77,[67,111,110,115],[.mk 5 [97] 0 0 [],.mk 4 [76,105,115,116] 0 0 [.mk 5 [97] 0 0 []]]⟩]⟩,
 ⟨93,[80,97,105,114],[[97],[98]],[⟨109,[80,97,105,114],[.mk 5 [97] 0 0 [],.mk 5 [98] 0 0 []]⟩]⟩,
 ⟨119,[78,97,116],[],[⟨130,[90,101,114,111],[]⟩,⟨137,[83,117,99,99],[.mk 4 [78,97,116] 0 0 []]⟩]⟩,
 ⟨147,[70,117,110],[[97],[98]],[⟨162,[70,117,110],[.mk 4 [45,62] 0 0 [.mk 5 [97] 0 0 [],.mk 5 [98] 0 0 []]]⟩]⟩,
 ⟨176,[84,119,111],[[97]],[⟨189,[66,111,116,104],[.mk 5 [97] 0 0 [],.mk 5 [97] 0 0 []]⟩,⟨200,[79,110,101],[.mk 4 [79,112,116,105,111,110] 0 0 [.mk 5 [97] 0 0 []]]⟩]⟩]
def zM9:V:=.sl [[.int .i64 0,.str [66,111,111,108],.a8,.sl [[.int .i64 12,.str [84,114,117,101],.a8],[.int .i64 19,.str [70,97,108,115,101],.a8]] false],[.int .i64 26,.str [79,112,116,105,111,110],.sl [[.str [97]]] false,.sl [[.int .i64 42,.str [78,111,110,101],.a8],[.int .i64 49,.str [83,111,109,101],.sl [[.int .i64 5,.str [97],.int .i64 0,.int .i64 0,.a8]] false]] false],[.int .i64 57,.str [76,105,115,116],.sl [[.str [97]]] false,.sl [[.int .i64 71,.str [78,105,108],.a8],[.int .i64 77,.str [67,111,110,115],.sl [[.int .i64 5,.str [97],.int .i64 0,.int .i64 0,.a8],[.int .i64 4,.str [76,105,115,116],.int .i64 0,.int .i64 0,.sl [[.int .i64 5,.str [97],.int .i64 0,.int .i64 0,.a8]] false]] false]] false],[.int .i64 93,.str [80,97,105,114],.sl [[.str [97]],[.str [98]]] false,.sl [[.int .i64 109,.str [80,97,105,114],.sl [[.int .i64 5,.str [97],.int .i64 0,.int .i64 0,.a8],[.int .i64 5,.str [98],.int .i64 0,.int .i64 0,.a8]] false]] false],[.int .i64 119,.str [78,97,116],.a8,.sl [[.int .i64 130,.str [90,101,114,111],.a8],[.int .i64 137,.str [83,117,99,99],.sl [[.int .i64 4,.str [78,97,116],.int .i64 0,.int .i64 0,.a8]] false]] false],[.int .i64 147,.str [70,117,110],.sl [[.str [97]],[.str [98]]] false,.sl [[.int .i64 162,.str [70,117,110],.sl [[.int .i64 4,.str [45,62],.int .i64 0,.int .i64 0,.sl [[.int .i64 5,.str [97],.int .i64 0,.int .i64 0,.a8],[.int .i64 5,.str [98],.int .i64 0,.int .i64 0,.a8]] false]] false]] false],[.int .i64 176,.str [84,119,111],.sl [[.str [97]]] false,.sl [[.int .i64 189,.str [66,111,116,104],.sl [[.int .i64 5,.str [97],.int .i64 0,.int .i64 0,.a8],[.int .i64 5,.str [97],.int .i64 0,.int .i64 0,.a8]] false],[.int .i64 200,.str [79,110,101],.sl [[.int .i64 4,.str [79,112,116,105,111,110],.int .i64 0,.int .i64 0,.sl [[.int .i64 5,.str [97],.int .i64 0,.int .i64 0,.a8]] false]] false]] false]] false
def FM(bits:Int):Z Decl->Nat->Z Decl
 | [],_=>[]
 |d::l,i=>if i≠1/\Mu .i64 (bits.fdiv (2 ^ i)) 1=1 then d::FM bits l (i+1)else FM bits l (i+1)
def zhH(bits:Int)(l:Z Decl):Z Decl:=if Mu .i64 bits 2≠0\/Mu .i64 bits 64≠0 then (l[1]?).toList else []
def bA(bits:Int):Z Decl:=zhH bits La++FM bits La 0
theorem znV(bits:Int):∀ (l m:Z Decl) (i:Nat),FM bits (l++m) i=FM bits l i++FM bits m (i+l.length):=by
 intro l
 induction l with
 |nil=>intro m i;simp[FM]
 | cons d l ih =>
   grind [FM]
theorem znU{bits:Int}{d:Decl}:∀ {l:Z Decl} {i:Nat},d∈FM bits l i->d∈l:=by
 intro l
 induction l with
 |nil=>intro i h;cases h
 | cons x l ih =>
   intro i h;unfold FM at h;grind
theorem zch(bits:Int):∀ (l:Z Decl) (i:Nat),(FM bits l i).length<=l.length:=by
 intro l
 induction l with
 |nil=>intro i;exact af _
 | cons x l ih =>
   grind [FM,List.length_cons]
theorem kH{bits:Int}{d:Decl}(h:d∈bA bits):d∈La:=by
 grind [bA,zhH,List.mem_of_getElem?,znU]
theorem R9(bits:Int):(bA bits).length<=8:=by
 unfold bA;grind [List.length_append,zch,La,zhH]
theorem MC(t:Tp)(n:Int):(t.next n).1.l=t.l:=by unfold Tp.next;split<;>rfl
def zyq{t:Tp}(h:0<=t.i)(n:Int):0<=(t.next n).1.i:=by
 unfold Tp.next;split;exact h;show 0<=t.i+1;omega
def yL(t:Tp)(n:Int):0<=(t.next n).2:=by
 unfold Tp.next;split;exact fM _;exact zcV _ _
def AV(t:Tp)(h:1<=n):(t.next n).2<n:=by
 unfold Tp.next;split;omega;exact ztp h
def Tp.ok(t:Tp):Prop:=0<=t.i/\t.l.length<=100000
theorem iE{t:Tp}(h:t.ok)(n:Int):(t.next n).1.ok:=⟨zyq h.1 n,by rw[MC];exact h.2⟩
theorem Dz(t:Tp){l:Z α}(h:l≠[]):∃ (j:Nat) (hj:j<l.length),(t.next (l.length:Int)).2=(j:Int)/\l[(t.next (l.length:Int)).2.toNat]?=some l[j]:=by
 have M:=yL t (l.length:Int);have h0:0<l.length:=bR.2 h;have O:=AV t (n:=(l.length:Int)) (by omega);grind
mutual
def jk : Nat->Tp->Z Decl->Z G->Tp×G
 | d, t, D,Lv =>
   let k:=(t.next 7).2;let t1:=(t.next 7).1
   if k<3/\Lv≠[]then ((t1.next Lv.length).1,(Lv[(t1.next Lv.length).2.toNat]?).getD Un)
   else if k<4 then (t1,Un)
   else match d with
    | 0=>(t1,Un)
    | d + 1 =>
      if (k=4\/k=5)/\D≠[]then
       let dd:=(D[(t1.next D.length).2.toNat]?).getD ⟨0,[],[],[]⟩;let r:=q8 d (t1.next D.length).1 D Lv dd.params.length
       (r.1,wJ dd.name r.2)
      else
       let a:=jk d t1 D Lv;let b:=jk d a.1 D Lv
       (b.1,wo a.2 b.2)
 termination_by d=>(d,0)
def q8(d:Nat)(t:Tp)(D:Z Decl)(Lv:Z G):Nat->Tp×Z G
 | 0=>(t,[])
 |n+1=>((jk d (q8 d t D Lv n).1 D Lv).1,(q8 d t D Lv n).2++[(jk d (q8 d t D Lv n).1 D Lv).2])
 termination_by n=>(d,n+1)
end
def KQ(d:Nat)(t:Tp)(D:Z Decl)(Lv:Z G)(n:Nat):(q8 d t D Lv n).2.length=n:=by
 induction n with
 |zero=>rw[q8];rfl
 |succ n ih=>rw[q8];simp[ih]
theorem C8 {P:G->Prop} {D:Z Decl} {Lv:Z G} (hl:∀ l∈Lv,P l) (hi:P Un) (hc:∀ dd∈D,∀ l:Z G,l.length=dd.params.length->(∀ x∈l,P x)->P (wJ dd.name l)) (ha:∀ a b,P a->P b->P (wo a b)) :
 ∀ (d:Nat) (t:Tp),P (jk d t D Lv).2:=by
 intro d
 induction d with
 | zero =>
   intro t;rw[jk]
   try dsimp only
   split;rename_i h;let⟨j,hj,_,O⟩:=Dz (t.next 7).1 h.2;grind;grind
 | succ d ih =>
   intro t;rw[jk]
   try dsimp only
   split;rename_i h;let⟨j,hj,_,O⟩:=Dz (t.next 7).1 h.2;grind;split;exact hi;split;rename_i h;let⟨j,hj,_,O⟩:=Dz (t.next 7).1 h.2;rw[O];refine hc _ (ax hj) _ (KQ ..) ?_;generalize hn:(((some D[j]).getD _:Decl).params.length)=n;clear hn
   induction n with
   |zero=>intro x W;rw[q8]at W;cases W
   | succ n zOd =>intro x W;rw[q8]at W;grind [List.mem_singleton]
   grind
theorem Nw {D:Z Decl} {Lv:Z G}:∀ (d:Nat) (t:Tp),t.ok->(jk d t D Lv).1.ok/\(jk d t D Lv).1.l=t.l:=by
 intro d
 induction d with
 | zero =>grind [jk,iE,MC]
 | succ d ih =>
   intro t h;rw[jk]
   try dsimp only
   split;grind [iE,MC];split;grind [iE,MC];split;have M:=iE (iE h 7) (D.length:Int);have O:((t.next 7).1.next (D.length:Int)).1.l=t.l:=(by rw[MC,MC]);generalize (t.next 7).1.next (D.length:Int)=q at M O;generalize (((D[q.2.toNat]?).getD _:Decl).params.length)=n
   induction n with
   |zero=>rw[q8];exact⟨M,O⟩
   | succ n zOd =>grind [q8]
   grind [iE,MC]
def zqC{D:Z Decl}{Lv:Z G}(d:Nat){t:Tp}(h:t.ok)(n:Nat):(q8 d t D Lv n).1.ok:=by
 induction n with
 |zero=>rw[q8];exact h
 |succ n ih=>rw[q8];exact(Nw d _ ih).1
def zAA(D:Z Decl):Prop:=D.length<=1000/\∀ d∈D,d.params.length<=100
theorem zgl(bits:Int):zAA (bA bits):=by
 refine⟨by have:=R9 bits;omega,λd hd=>?_⟩;have:=kH hd;have key:∀ d∈La,d.params.length<=100:=by decide
 grind
def wO:Z cU->Int->Y G
 | [],_=>none
 |a::s,i=>if a.id=i then some a.type else wO s i
theorem Yl(s u:Z cU)(i:Int):wO (s++u) i=(wO s i).or (wO u i):=by
 induction s with
 |nil=>rfl
 | cons a s ih =>
   grind [wO]
mutual
def G.yF(s:Z cU):G->G
 |.mk k n i h l=>if k=1 then (wO s i).getD (.mk k n i h l)else .mk k n i h (G.zcr s l)
def G.zcr(s:Z cU):Z G->Z G
 | []=>[]
 |t::l=>G.yF s t::G.zcr s l
end
def zn4(s:Z cU)(l:Z G):G.zcr s l=l.map (G.yF s):=by
 induction l with
 |nil=>simp[G.zcr]
 |cons t l ih=>simp[G.zcr,ih]
def ZR(s:Z cU)(t:G):t.yF s=if t.kind=1 then (wO s t.id).getD t else .mk t.kind t.name t.id t.home (t.args.map (G.yF s)):=by
 cases t;simp only[G.yF,G.fH,G.j4,G.wP,G.Kv,G.iT,zn4]
def wI:G:=.mk 0 [] 0 0 []
def zD4:Slot:=⟨false,wI,0,false⟩
namespace ao
def cE (s:ao)(id:Int):Y Slot:=if 0<=id then s.bc[id.toNat]? else none
def set(s:ao)(id:Int)(x:Slot):ao×Bool :=
 match s.cE id with
 |some cb=>(⟨s.bc.set id.toNat x,s.b9++[⟨id,cb,false⟩]⟩,true)
 |none=>(s,false)
def bound(s:ao)(t:G):Bool :=
 match decide (t.kind=1),s.cE t.id with
 |true,some x=>x.bound
 |_,_=>false
def to(s:ao)(t:G):G :=
 match s.cE t.id with
 |some x=>x.type
 |none=>wI
def mE(s:ao):Nat->G->G
 | 0,t=>t
 |n+1,t=>if s.bound t then mE s n (s.to t)else t
def small(s:ao):Prop:=s.bc.length<=1000/\s.b9.length<=1000
instance (s:ao):Decidable s.small:=inferInstanceAs (Decidable (_/\_))
def fj (s:ao)(i:Nat):s.cE (i:Int)=s.bc[i]?:=by simp[cE]
theorem gg {s:ao}{id:Int}(h:s.cE id=some x):∃ i:Nat,id=i/\i<s.bc.length/\s.bc[i]?=some x:=by
 unfold cE at h;grind
theorem gj {s:ao}{id:Int}(h:s.cE id=some x):∃ i:Nat,∃ hl:i<s.bc.length,id=i/\s.bc[i]=x:=by
 let⟨i,M,O,h3⟩:=gg h;grind
theorem nw {s:ao}{id:Int}(h:s.cE id=none):id<0\/(s.bc.length:Int)<=id:=by
 unfold cE at h;grind
theorem D8{s:ao}{t:G}(h:s.bound t=true):t.kind=1/\∃ x,s.cE t.id=some x/\x.bound=true:=by
 grind [bound]
theorem J5{s:ao}{t:G}(M:t.kind=1)(O:s.cE t.id=some x):s.bound t=x.bound:=by
 grind [bound]
end ao
def isArrow (t:G):T3 G G Bool :=
 if t.kind=4/\t.name=[45,62]then (match t.args with
  | [a,b]=>⟨a,b,true⟩
  |_=>⟨wI,wI,false⟩)else ⟨wI,wI,false⟩
mutual
def j5(kind:Int):G->Z G->Z G
 |.mk k n i h l,out=>if k=kind/\l=[]then (if G.mk k n i h l∈out then out else out++[G.mk k n i h l])else eT kind l out
def eT(kind:Int):Z G->Z G->Z G
 | [],out=>out
 |t::l,out=>eT kind l (j5 kind t out)
end
def Af(kind:Int)(t:G)(out:Z G):j5 kind t out=if t.kind=kind/\t.args=[]then (if t∈out then out else out++[t])else eT kind t.args out:=by
 cases t;simp[j5]
def Ol(kind:Int)(l:Z G)(t:G)(out:Z G):eT kind (l++[t]) out=j5 kind t (eT kind l out):=by
 induction l generalizing out with
 |nil=>simp[eT]
 |cons a l ih=>simp[eT,ih]
def Om{kind:Int}{l:Z G}(h:∀ t∈l,∀ out,out.length<=(j5 kind t out).length/\(j5 kind t out).length<=out.length+t.size):∀ out,out.length<=(eT kind l out).length/\(eT kind l out).length<=out.length+G.bj l:=by
 induction l with
 |nil=>intro out;simp[eT,G.bj]
 | cons a l ih =>
   intro out;have M:=h a (aB ..) out;have O:=ih (λt ht=>h t (aD _ ht)) (j5 kind a out);simp only[eT,G.bj];omega
theorem EB(kind:Int)(t:G):∀ out,out.length<=(j5 kind t out).length/\(j5 kind t out).length<=out.length+t.size:=by
 induction t using G.ind with
 | h t ih =>
   intro out;rw[Af];have hp:=G.size_pos t;split;grind;have:=Om (kind:=kind) ih out;have:=G.size_eq t;omega
theorem qY(kind:Int)(l:Z G):∀ out,out.length<=(eT kind l out).length/\(eT kind l out).length<=out.length+G.bj l:=Om λt _=>EB kind t
theorem RF{kind:Int}{l:Z G}(h:∀ t∈l,∀ out,G.fl out=true->G.fl (j5 kind t out)=true):∀ out,G.fl out=true->G.fl (eT kind l out)=true:=by
 induction l with
 |nil=>intro out ho;simpa [eT]using ho
 | cons a l ih =>
   intro out ho;simp only[eT];grind
theorem zfF (kind:Int) (t:G):t.ok=true->∀ out,G.fl out=true->G.fl (j5 kind t out)=true:=by
 induction t using G.ind with
 | h t ih =>
   intro ht out ho;rw[Af];split;split;exact ho;rw[G.ny]at ho ⊢;grind;exact RF (λu hu=>ih u hu (G.GL ht hu)) out ho
def Vt{kind:Int}{l:Z G}(hl:G.fl l=true):∀ out,G.fl out=true->G.fl (eT kind l out)=true :=
 RF λt ht=>zfF kind t (G.ny.1 hl t ht)
theorem FK(l m:Z G):G.bj (l++m)=G.bj l+G.bj m:=by
 induction l with
 |nil=>simp[G.bj]
 |cons a l ih=>simp[G.bj,ih,eH]
theorem Xl(l:Z G)(i:Nat):G.bj (l.take i)<=G.bj l:=by
 grind [FK,List.take_append_drop]
def zcM{l:Z G}(h:G.fl l=true)(i:Nat):G.fl (l.take i)=true:=G.ny.2 λt ht=>G.ny.1 h t (fQ ht)
section
variable {σ β:Type} [iI σ] [bo α] [bo β]
def zPY(F:Z σ->α->Y (Z σ))(es:Z (Z V))(vs:Z V):Y (Z (Z V)×Z V):=match vs with
 | [x]=>ob (eZ es) λl=>ob (bo.dec x) λa=>ob (F l a) λr=>some (r.map iI.cells,[])
 |_=>none
def MO(F:Z σ->α->β->Y (Z σ))(es:Z (Z V))(vs:Z V):Y (Z (Z V)×Z V):=match vs with
 | [x,y]=>ob (eZ es) λl=>ob (bo.dec x) λa=>ob (bo.dec y) λb=>ob (F l a b) λr=>some (r.map iI.cells,[])
 |_=>none
@[simp] def zLy {F:Z σ->α->β->Y (Z σ)} {es:Z (Z V)} {x y:V}:MO F es [x,y]=ob (eZ es) λl=>ob (bo.dec x) λa=>ob (bo.dec y) λb=>ob (F l a b) λr=>some (r.map iI.cells,[]):=(rfl)
def Ot{F:Z σ->α->β->Y (Z σ)}{es:Z (Z V)}(h:MO F es vs=some r):∃ l a b q,es=l.map iI.cells/\vs=[enc a,enc b]/\F l a b=some q/\r=(q.map iI.cells,[]):=by
 unfold MO at h;split at h;simp only[aC]at h;let⟨l,hl,a,ha,b,hb,q,hq,h⟩:=h;cases h;exact⟨l,a,b,q,iZ hl,by rw[bo.bB _ _ ha,bo.bB _ _ hb],hq,rfl⟩;cases h
end
def BB(out:Z Int)(t:G):Z Int:=if t.id∈out then out else out++[t.id]
def vP(l:Z G):Z Int:=l.foldl BB []
def um(l:Z G):Z Int:=vP (eT 1 l [])
theorem VA(l:Z G)(t:G):vP (l++[t])=BB (vP l) t:=by simp[vP]
theorem zmf(out:Z Int)(t:G):out.length<=(BB out t).length/\(BB out t).length<=out.length+1:=by
 grind [BB]
theorem Yo(l:Z G):(vP l).length<=l.length:=by
 have:∀ (l:Z G) (o:Z Int),(l.foldl BB o).length<=o.length+l.length:=by
  intro l
  induction l with
  |nil=>intro o;simp
  |cons a l ih=>intro o;have:=ih (BB o a);have:=zmf o a;simp;omega
 grind [vP]
structure vr where
 n:Nat
instance:bo vr where
 enc b:=.int .u8 (Int.ofNat b.n)
 dec v:=match v with
  |.int .u8 (.ofNat n)=>some ⟨n⟩
  |_=>none
 dD _:=rfl
 bB v a h:=by split at h;cases h;rfl;cases h
 norm _:=rfl
@[simp] def zJB {b:vr}:(enc b:V)=.int .u8 (b.n:Int):=(rfl)
def sd(n:Nat):Bool:=decide (97<=n)&&decide (n<=122)
def rN(n:Nat):Bool:=decide (65<=n)&&decide (n<=90)
def zgi(n:Nat):Bool:=decide (48<=n)&&decide (n<=57)
def DN(n:Nat):Bool:=sd n||rN n||zgi n||decide (n=95)
def XJ(s:Z Nat):Bool:=s.all DN&&!s.isEmpty
def pF:Z (Z Nat):=[[100,97,116,97],[108,101,116],[114,101,99],[105,110],[99,97,115,101],[111,102],[101,110,100]]
def BL(s:Z Nat):Bool:=XJ s&&rN (s.headD 0)&&decide (s.length<=12)
def jC(s:Z Nat):Bool:=XJ s&&sd (s.headD 0)&&decide (s.length<=12)&&decide (s ∉ pF)
@[simp] def ztN:isStr TypeDesc.string=true:=(rfl)
mutual
def G.short:G->Bool
 |.mk _ n _ _ l=>decide (n.length<2^63)&&G.su l
def G.su:Z G->Bool
 | []=>true
 |t::l=>t.short&&G.su l
end
def G.zjP{t:G}:t.short=true↔t.name.length<2^63/\G.su t.args=true:=by cases t;simp[G.short]
def G.ze0{l:Z G}:G.su l=true↔∀ t∈l,t.short=true:=by
 induction l with
 |nil=>simp[G.su]
 |cons a l ih=>simp[G.su,ih]
mutual
def G.valid:G->Bool
 | .mk k n i h l =>
   if k=1\/k=2 then decide (0<=i)&&decide (i<=1000000)&&decide (n=[])&&decide (h=0)&&decide (l.length=0)
   else if k=3 then decide (0<=i)&&decide (i<=1000000)&&decide (-1<=h)&&decide (h<=1000000)&&decide (n=[])&&decide (l.length=0)
   else if k=5 then decide (i=0)&&decide (h=0)&&decide (l.length=0)&&jC n
   else if k=4 then decide (i=0)&&decide (h=0)&&G.rq l&&(if n=[45,62]then decide (l.length=2)else if n=[73,110,116]then decide (l.length=0)else BL n&&decide (l.length<=4))
   else false
def G.rq:Z G->Bool
 | []=>true
 |t::l=>t.valid&&G.rq l
end
theorem G.Gx{l:Z G}:G.rq l=true↔∀ t∈l,t.valid=true:=by
 induction l with
 |nil=>simp[G.rq]
 |cons a l ih=>simp[G.rq,ih]
def ao.T7(s:ao):Prop:=s.bc.length<=6/\s.b9.length<=6/\(∀ x∈s.bc,x.type.size<=20)/\∀ x∈s.b9,x.cb.type.size<=20
instance:DecidablePred ao.T7:=λs=>by unfold ao.T7;infer_instance
def G.Md {t:G} (h:t.valid=true):∀ u∈t.args,u.valid=true:=by
 let⟨k,n,i,hh,l⟩:=t;intro u hu;simp only[G.iT]at hu;unfold G.valid at h;by_cases hl:l.length=0;rw[List.length_eq_zero_iff.1 hl]at hu;cases hu;split at h;simp[hl]at h;split at h;simp[hl]at h;split at h;simp[hl]at h;split at h;simp only[aW]at h;exact G.Gx.1 h.1.2 u hu;cases h
def ao.znK(s:ao)(x:Slot):Prop:=if x.bound=true then x.type.valid=true/\∀ v∈um [x.type],v<s.bc.length else x.type=wI
instance (s:ao)(x:Slot):Decidable (s.znK x):=by unfold ao.znK;infer_instance
def ao.fine(s:ao):Prop:=s.bc.length<=1000/\s.b9.length<=1000/\∀ x∈s.bc,x.type.ok=true/\x.type.short=true/\x.type.size<=10000
instance (s:ao):Decidable s.fine:=by unfold ao.fine;infer_instance
def QN(g:Y Nat)(id:Nat):V:=match g with
 |none=>.ptr id 0 0
 |some g=>.func g [.ptr id 0 0]
def sE (g:Y Nat) (v:V):Y Nat:=match g with
 | none=>(match v with
   |.ptr id 0 0=>some id
   |_=>none)
 | some g=>(match v with
   |.func g' [.ptr id 0 0]=>gd (Nat.beq g' g) (some id)
   |_=>none)
def zlR{g:Y Nat}{id:Nat}(h:sE g v=some id):v=QN g id:=by
 cases g with
 | none =>unfold sE at h;dsimp only at h;split at h;cases h;rfl;cases h
 | some g =>
   unfold sE at h;dsimp only at h;split at h;simp only[bI,beq_true]at h;obtain⟨rfl,h⟩:=h;cases h;rfl;cases h
abbrev jw(v:V):Obj:=.arr 1 0 [[v]] true false false
def ee (o:Obj):Y V:=match o with
 |.arr 1 0 [[v]] true false false=>some v
 |_=>none
theorem uJ{o:Obj}(h:ee o=some v):o=jw v:=by
 unfold ee at h;grind
@[simp] def zM4 :ee (.arr 1 0 [[v]] true false false)=some v:=(rfl)
def J4(cs:V)(id:Nat)(eb:Z V)(v0:V):EmbD where
 k:=1
 k':=1
 π:=λ_=>id
 OL:=[(0,jw cs)]
 cJ:=[(0,jw cs)]
 eb:=eb
 v0:=v0
section
variable {σ:Type} [bo σ]
def Wt(g:Y Nat)(F:σ->G->Y G)(vs:Z V)(C:HS):Y EmbD:=match vs with
 | [tv,cv]=>ob (sE g cv) λid=>ob (C.H.get id) λo=>ob (ee o) λc=>ob (bo.dec c:Y σ) λs=>ob (bo.dec tv:Y G) λa=>ob (F s a) λr =>
  gd (Nat.blt id C.n) (some (J4 (enc s) id [tv,QN g 0] (enc r)))
 |_=>none
@[simp] def zM3 {g:Y Nat} {F:σ→G→Y G} {tv cv:V} :Wt g F [tv,cv] C=ob (sE g cv) fun id=>ob (C.H.get id) fun o=>ob (ee o) fun c=>ob (bo.dec c:Y σ) fun s=>ob (bo.dec tv:Y G) fun a=>ob (F s a) fun r =>
      gd (Nat.blt id C.n) (some (J4 (enc s) id [tv,QN g 0] (enc r))):=(rfl)
@[simp] def zCH {id:Nat}:sE none (.ptr id 0 0)=some id:=(rfl)
@[simp] theorem zz2 {id:Nat}:sE (some g) (.func g [.ptr id 0 0])=some id:=by
  show gd (Nat.beq g g) (some id)=_;simp_all
@[simp] def zCG {id:Nat}:QN none id=.ptr id 0 0:=(rfl)
@[simp] def zCF {id:Nat}:QN (some g) id=.func g [.ptr id 0 0]:=(rfl)
def Au(a:G):(enc a:V).pure=true:=jo (vs:=[enc a]) (by simp) _ (ag.2 rfl)
theorem QO{g:Y Nat}{s:σ}{id:Nat}{a r:G}(ea:(enc s:V).bN=true):(J4 (enc s) id [enc a,QN g 0] (enc r)).Good:=by
 have hb:∀ A:Nat->Bool,(jw (enc s)).in A=true:=λA=>by show (([[enc s]]:Z (Z V)).all λe=>e.all (V.Ai A))=true;simp_all [iG,rQ,fT,V.Ah]
 refine⟨rfl,rfl,af _,?_,?_,V.dU (Au r),?_⟩;intro p hp;obtain rfl:=ag.1 hp;exact hb _;intro p hp;obtain rfl:=ag.1 hp;exact⟨hb _,rfl⟩;intro v hv;simp only[J4,ay,aU,or_false]at hv;rcases hv with rfl|rfl;exact V.dU (Au a);cases g<;>rfl
def Ws{g:Y Nat}{F:σ->G->Y G}(hσ:∀ s:σ,(enc s:V).bN=true){D:EmbD}(h:Wt g F vs C=some D) :
 ∃ s a r id,F s a=some r/\D=J4 (enc s) id [enc a,QN g 0] (enc r)/\D.Good/\D.Fits vs C:=by
 unfold Wt at h;split at h;rename_i tv cv;simp only[aC,bI,gz]at h;let⟨id,hid,o,ho,c,hc,s,OR,a,ha,r,hr,cG,h⟩:=h;cases h;have e1:=bo.bB _ _ ha;subst e1;have e2:=zlR hid;subst e2;have e3:=bo.bB _ _ OR;subst e3;have e4:=uJ hc;subst e4;refine⟨s,a,r,id,hr,rfl,QO (hσ s),?_,?_,?_,?_,?_⟩;simp only[J4,aX,iF];rw[V.jq (V.dU (Au a))];cases g<;>rfl
 intro i j hi hj _;simp only[J4]at hi hj;omega;intro p hp;obtain rfl:=ag.1 hp;show C.H.get id=some ((jw (enc s)).cw _);rw[ho];show _=some (Obj.arr 1 0 [[(enc s:V).jr _]] true false false);rw[V.jF (hσ s)];intro i hi;simp only[J4]at hi;omega;intro i hi;simp only[J4]at hi ⊢;exact cG;cases h
@[simp] def zGZ {cs:V} {id:Nat}  {v0:V}  (h:v0.sS (λ_=>false)=true):(J4 cs id eb v0).val C=v0:=by
  show v0.cw _=_;exact V.jq h
@[simp] def zCI {cs:V} {id:Nat}  {v0:V}  (h:cs.bN=true):(J4 cs id eb v0).heap C={ H:=C.H.set id (jw cs),n:=C.n,log:=id::C.log }:=by
  show ({ H:=C.H.set id (Obj.arr 1 0 [[cs.jr _]] true false false),n:=C.n+0,log:=id::C.log }:HS)=_;rw[V.jF h];rfl
end
def qu(i:Nat)(c:V):Bool:=match c with
 |.own id _ _ _ _=>Nat.beq id i
 |_=>false
theorem JM  :∀ {l:Z V},(l.any (qu i))=false->(mO C l).H.get i=C.H.get i:=by
 intro l
 induction l with
 |nil=>intro _;rfl
 | cons c l ih =>
   intro h;rw[qD,nk]at h;show (nU (mO C l) c).H.get i=_;rw[<- ih h.2];unfold nU;split;rename_i id _ _ _ _;have cg:id≠i:=λe=>(by simp_all [qu]);unfold iO
   cases hg:(mO C l).H.get id with
   |none=>rfl
   | some o =>
     cases ha:o.ye with
     |none=>simp only[u6,ha]
     | some a =>simp only[u6,ha];show ((mO C l).H.set id _).get i=_;rw[PT.cZ,if_neg (λe=>cg e.symm)]
   rfl
theorem Cm.bw{v0:V}(hi:cj (OL.map λp=>p.1)=true)(hk:(List.range k).all (λi=>cx OL i)=true)(hn:ok (kV C v) λv'=>ig v'=v0/\v'.sS (cx OL)=true)
 (hH:∀ p∈OL,p.2.in (cx OL)=true/\(v.cells.any (qu p.1))=false/\C.H.get p.1=some p.2):Cm k v0 OL v C:=by
 let⟨v',hv,e1,e2⟩:=hn;refine⟨(v',mO C v.cells),by simp only[nE,hv];rfl,aJ.bw hi hk e1 e2 λp hp=>?_⟩;grind [JM]
def zut{f:FuncId}{fn:Func}{sc:SC}{D:EmbD}(hρ:J.Good I)(aq:bK I E)(hP:E.P.follows .mixedOrders=true)(hN:vX E.P)(hf:E.P.funcs[f]?=some fn)(hb:fn.body.bind aV=some sc)(he:jH fn.ntmps D.eb 0 .leaf=some T)
 (hg:D.Good) (h:Wp I E D.k fn.ntmps sc T { H:=dP D.OL,n:=D.k,log:=[] } (Leaves E.P fn (Cm D.k D.v0 D.cJ)))   (b4:D.Fits vs C) :
 aS I E.P f vs C (D.v0.cw (news C.n D.k D.π)) (DV C D.k D.k' D.π D.cJ):=by
 rw[<- b4.args];exact zaZ hf hb he (Eb hρ aq hP hN h) (λ_ _ h=>.inr h) hg.ol hg.zEN hg.le hg.RK hg.zo4 hg.v0 hg.eb b4.inj b4.obj b4.zDw b4.lt
def SC.plain:SC->Bool
 |.loop _=>false
 |.range _ _ _ _=>false
 |.seq a b=>a.plain&&b.plain
 |.cond _ a b=>a.plain&&b.plain
 |.block _ a=>a.plain
 |_=>true
section
variable {sz:Nat}{rd:Bool}
def Zh:∀ {s:SC} {T:PT V} {C:HS} {Q:Ex->PT V->HS->Prop},s.plain=true->Wp I E k sz s T C Q->Js E rd sz s T C Q:=by
 intro s
 induction s with
 |skip=>intro T C Q _ h;exact zbo h
 |ret=>intro T C Q _ h;exact zqT h
 |exit i=>intro T C Q _ h;exact zi7 h
 |zE l=>intro T C Q _ h;exact QZ h
 |draw l bs=>intro T C Q _ h;exact zi8 h
 | seq a b HA ihb =>
   intro T C Q hp h;rw[SC.plain,aW]at hp;refine Kk (zi5 (HA hp.1 h) λe T C q=>?_)
   cases e with
   |normal=>exact ihb hp.2 q
   |ret=>exact q
   |exit i=>exact q
 | cond q a b HA ihb =>intro T C Q hp h;rw[SC.plain,aW]at hp;let⟨v,hv,t,ht,h⟩:=h;rw[V.fv]at ht;subst ht;refine Pt hv (λe=>?_) (λe=>?_);rw[if_pos e]at h;exact HA hp.1 h;rw[if_neg (by rw[e];simp)]at h;exact ihb hp.2 h
 |block i a HA=>intro T C Q hp h;exact WW (HA hp h)
 |loop a _=>intro T C Q hp;cases hp
 |range g ps a b _ _=>intro T C Q hp;cases hp
end
def zqx (tS tE tI tB:Nat):SC :=
 .seq (.zE [⟨some 4,.load tS (.tmp 1),none⟩,⟨some 5,.call ⟨.builtin .len,#[.tmp 4],#[tS]⟩,none⟩,⟨some 6,.binOp .sub tI (.tmp 5) (.const (.int .i64 1)) tI,none⟩,⟨some 3,.assign (.tmp 6),none⟩])
  (.block 0 (.loop (.seq (.seq (.zE [⟨some 7,.move (.tmp 3),none⟩,⟨some 8,.binOp .geq tI (.tmp 7) (.const (.int .i64 0)) tI,none⟩]) (.cond (.tmp 8) .skip (.exit 0)))
    (.seq (.block 1 (.seq (.zE [⟨some 11,.move (.tmp 0),none⟩,⟨some 12,.move (.tmp 3),none⟩,⟨some 13,.load tS (.tmp 1),none⟩,⟨some 14,.move (.tmp 3),none⟩,⟨some 15,.indexAddr tS (.tmp 13) (.tmp 14),none⟩,
      ⟨some 16,.load tE (.tmp 15),none⟩,⟨some 17,.call ⟨.value (.tmp 11),#[.tmp 12,.tmp 16],#[tI,tE]⟩,none⟩,⟨some 18,.unOp .not tB (.tmp 17),none⟩]) (.cond (.tmp 18) .ret .skip)))
      (.zE [⟨some 9,.move (.tmp 3),none⟩,⟨some 10,.binOp .sub tI (.tmp 9) (.const (.int .i64 1)) tI,none⟩,⟨some 3,.assign (.tmp 10),none⟩])))))
theorem Rk{ops l:Z Oper}{r:Z wA}(h:ef ops l=some (s::r)):∃ o l',l=o::l'/\o.dst=s.d/\o.op=s.op/\Mj ops o.guard=some s.g/\ef ops l'=some r:=by
 cases l with
 |nil=>cases h
 | cons o l' =>
   grind [ef]
theorem zb3{ops:Z Oper}{g:Y (Nat×Bool)}(h:Mj ops g=some none):g=none:=by
 unfold Mj at h;grind
def Uf{id:Nat}{op:Op}{K:V->HS->Prop}(hk:∀ v C,K v C->K' v C)(h:Dj E id T C op K):Dj E id T C op K':=by
 cases op with
 | call c =>
   let⟨zQS,as,ts⟩:=c
   cases zQS with
   |builtin b=>exact⟨h.1,xq h.2 λvs h=>xq h λr h=>hk _ _ h⟩
   |value x=>exact⟨h.1,xq h.2 λv h=>xq h λp h=>xq h λvs h=>xq h λr h=>hk _ _ h⟩
   |invoke a b=>exact h
 |_=>exact⟨h.1,xq h.2 λr h=>hk _ _ h⟩
theorem zqO  {sz:Nat} {ops:Z Oper}:∀ (s1:Z wA) {l:Z Oper} {s2:Z wA} {id:Nat} {T:PT V} {C:HS} {R:PT V->HS->Prop},ef ops l=some (s1++s2) ->
 (Rs E sz s1 id T C λT1 cp=>∀ l2,ef ops l2=some s2->Ro E sz ops l2 (id+s1.length) T1 cp R)->Ro E sz ops l id T C R:=by
 intro s1
 induction s1 with
 |nil=>intro l s2 id T C R h hr;exact hr l h
 | cons s s1 ih =>
   intro l s2 id T C R h hr;obtain⟨o,l',rfl,hd,lP,hg,hl⟩:=Rk (r:=s1++s2) h;have M:ef (ops) [o]=some [s]:=(by grind [ef]);have key:Rs E sz [s] id T C λT1 cp=>Ro E sz ops l' (id+1) T1 cp R:=(by have E2:wpS E id T C s λv a9=>put sz T s.d v λT1=>Rs E sz s1 (id+1) T1 a9 λT1 cp=>∀ l2,ef ops l2=some s2->Ro E sz ops l2 (id+(s::s1).length) T1 cp R:=hr;show wpS E id T C s λv a9=>put sz T s.d v λT1=>Ro E sz ops l' (id+1) T1 a9 R;have e:∀ T1 a9,(Rs E sz s1 (id+1) T1 a9 λT1 cp=>∀ l2,ef ops l2=some s2->Ro E sz ops l2 (id+(s::s1).length) T1 cp R)->Ro E sz ops l' (id+1) T1 a9 R:=(by intro T1 a9 hh;refine ih hl ?_;rw[show id+1+s1.length=id+(s::s1).length by simp;omega];exact hh);have mono:∀ {K K':V->HS->Prop},(∀ v C,K v C->K' v C)->Dj E id T C s.op K->Dj E id T C s.op K':=λhk h=>Uf hk h;have pm:∀ {v:V} {K K':PT V->Prop},(∀ T,K T->K' T)->put sz T s.d v K->put sz T s.d v K':=(by intro v K K' hk hp;unfold put at hp ⊢;grind);unfold wpS at E2 ⊢;split;grind;rename_i t w eR;rw[eR]at E2;refine xq E2 λv h=>xq h λq h=>?_;grind);have O:=zqP (E:=E) (sz:=sz) (ops:=ops) M key;let⟨n,T',a9,h3,h4⟩:=O;have h3':(ob (wB E (rV E n) sz ops o id T C) λr=>some (r.1,r.2))=some (T',a9):=h3;grind [aC,zbm]
def zqS  {rd:Bool} {sz:Nat}    (s1:Z wA) {s2:Z wA} (h:Rs E sz s1 C.n T { H:=C.H,n:=C.n+(s1++s2).length,log:=C.log } λT1 cp=>∀ ops l2,ef ops l2=some s2->Ro E sz ops l2 (C.n+s1.length) T1 cp λT C=>Q .normal T C) :
 Js E rd sz (.zE (s1++s2)) T C Q:=λc hc=>by
 obtain⟨id,ops,rfl,hl⟩:=jl hc
 have hlen:∀ {m:Z Oper} {s:Z wA},ef ops.toList m=some s->s.length=m.length:=by
  intro m
  induction m with
  |nil=>intro s h;cases h;rfl
  | cons o m ih =>intro s h;unfold ef at h;split at h;rename_i g r hg hr;cases h;simp[ih hr];cases h
 rw[hlen hl]at h
 have mono:∀ {s:Z wA} {id:Nat} {T:PT V} {C:HS} {R R':PT V->HS->Prop},(∀ T C,R T C->R' T C)->Rs E sz s id T C R->Rs E sz s id T C R':=by
  intro s
  induction s with
  |nil=>intro id T C R R' hk h;exact hk _ _ h
  | cons o s ih =>intro id T C R R' hk h;have pm:∀ {T:PT V} {v:V} {K K':PT V->Prop},(∀ T,K T->K' T)->put sz T o.d v K->put sz T o.d v K':=(by intro T v K K' hk hp;unfold put at hp ⊢;split;rename_i eR;rw[eR]at hp;exact hk _ hp;rename_i d eR;rw[eR]at hp;exact⟨hp.1,hk _ hp.2⟩);show wpS E id T C o _;have h':wpS E id T C o λv a9=>put sz T o.d v λT1=>Rs E sz s (id+1) T1 a9 R:=h;unfold wpS at h' ⊢;split;rename_i eR;rw[eR]at h';exact Uf (λv C h=>pm (λT h=>ih hk h) h) h';rename_i t w eR;rw[eR]at h';refine xq h' λv h=>xq h λq h=>?_;split;rename_i e1;rw[if_pos e1]at h;exact Uf (λv C h=>pm (λT h=>ih hk h) h) h;rename_i e1;rw[if_neg e1]at h;exact pm (λT h=>ih hk h) h
 have:=Zk (id:=id) (rd:=rd) (Q:=Q) (ops:=ops.toList) (zqO (E:=E) (sz:=sz) s1 hl (mono (λT1 cp h l2 vc=>h _ l2 vc) h));simpa using this
def zjZ{sz:Nat}{a b:Code}(hL:C.H.get L=some (.lp sz T ps.toList a b 0))(hz:IV sz ps.toList vs T=some T1)
 (h:Jc E true sz a T1 C λex T2 cp=>ex=.normal/\cp.H.get L=some (.lp sz T ps.toList a b 0) /\
   Jc E true sz b T2 (cp.wr L (.lp sz T ps.toList a b 1)) λex T3 ea=>ea.H.get L=some (.lp sz T ps.toList a b 1)/\(ex=.normal/\K true (ea.wr L (.lp sz T ps.toList a b 0))\/ex=.ret/\K false (ea.wr L (.lp sz T ps.toList a b 2)))) :
 ∃ n t a9,zW (rV E n) L vs C=some (.bool t,a9)/\K t a9:=by
 obtain⟨n,ex,T2,cp,M,rfl,O,m,Cr,T3,ea,h3,h4,⟨rfl,h5⟩|⟨rfl,h5⟩⟩:=h
 all_goals
  refine⟨max n m,_,_,?_,h5⟩;simp only[zW,aC,bI];exact⟨_,hL,_,rfl,rfl,T1,hz,_,(JN E (iP n m)).code M,rfl,_,O,_,rfl,rfl,_,(JN E (jO n m)).code h3,_,h4,_,rfl,rfl⟩
theorem zmi{sz:Nat}{ops l:Z Oper}{id:Nat}{R:PT V->HS->Prop}{o:Oper}{x:Operand}{xs:Array Operand}(hd:o.dst=some d)(hg:o.guard=none)(lP:o.op=.call ⟨.value x,xs,ts⟩)
 (hv:C.H.get id=none) (W:bU T x=some (.lx L)) (fy:kG T xs.toList=some vs) (hdz:d<sz) (h:∃ n a9,zW (rV E n) L vs C=some (.bool t,a9)/\Ro E sz ops l (id+1) (T.set d (.bool t)) a9 R):Ro E sz ops (o::l) id T C R:=by
 let⟨n,a9,M,O⟩:=h;refine zbm ⟨n,(T.set d (.bool t),a9),?_,O⟩;have hw:xQ ops T o=some true:=by unfold xQ;rw[hg];rfl
 have hc:dX o.op=2:=by rw[lP];rfl
 have eK:cy E (rV E n) false T C id o=some (.bool t,a9):=by unfold cy;rw[lP];show (ob (kG T xs.toList) λvs=>ob (bU T x) λv=>Mc E (rV E n) v vs C)=_;rw[fy,ed,W,ed];exact M
 show (ob (xQ ops T o) λw=>bi w _ _)=_;rw[hw,ed,iR,hc];show gd (gW C id) _=_;rw[aK.2 hv,rE,eK,ed,hd];show (ob (gd (Nat.blt d sz) (some (T.set d (.bool t)))) λT'=>some (T',a9))=_;simp_all
section
variable {f:FuncId}{fn:Func}{tS tE tI tB:Nat}{IS IE:TI}
theorem zl4 (zAM:ti E.P tS=some IS) (zCm:IS.desc=.slice tE) (zDX:ti E.P tE=some IE) {es:Z (Z V)}  (cd:bj IE.size es=true) {val:Z V->V} (me:∀ e∈es,Bh IE e 0=some (val e)) (hlen:es.length<2 ^ 62)
  (kO:Nat->HS->Prop) (zt7:∀ j C,kO j C->C.H.get bx=some (.arr 1 0 [[.sl es tg]] true false false)) (hIn:∀ j C m log,kO j C->C.n<=m->kO j { H:=C.H,n:=m,log:=log }) (zMs:∀ j C,kO j C->∀ i,C.n<=i->C.H.get i=none)
 {J:HS->Prop} (zJm:∀ C m log,J C->C.n<=m->J { H:=C.H,n:=m,log:=log })
 (nh:∀ i e,es[i]?=some e->∀ C,kO (i+1) C->∃ n t a9,zW (rV E n) L [.int .i64 (i:Int),val e] C=some (.bool t,a9)/\(bif t then kO i a9 else J a9))  (hQ:∀ T C,kO 0 C->Q (.exit 0) T C) (hR:∀ T C,J C->Q .ret T C) :
 ∀ (j:Nat) (T:PT V) (C:HS),j<=es.length->kO j C->T.get 0=some (.lx L)->T.get 1=some (.ptr bx 0 0)->T.get 3=some (.int .i64 ((j:Int)-1)) ->
   Js E false 19 (.loop (.seq (.seq (.zE [⟨some 7,.move (.tmp 3),none⟩,⟨some 8,.binOp .geq tI (.tmp 7) (.const (.int .i64 0)) tI,none⟩]) (.cond (.tmp 8) .skip (.exit 0)))
   (.seq (.block 1 (.seq (.zE [⟨some 11,.move (.tmp 0),none⟩,⟨some 12,.move (.tmp 3),none⟩,⟨some 13,.load tS (.tmp 1),none⟩,⟨some 14,.move (.tmp 3),none⟩,⟨some 15,.indexAddr tS (.tmp 13) (.tmp 14),none⟩,
     ⟨some 16,.load tE (.tmp 15),none⟩,⟨some 17,.call ⟨.value (.tmp 11),#[.tmp 12,.tmp 16],#[tI,tE]⟩,none⟩,⟨some 18,.unOp .not tB (.tmp 17),none⟩]) (.cond (.tmp 18) .ret .skip)))
     (.zE [⟨some 9,.move (.tmp 3),none⟩,⟨some 10,.binOp .sub tI (.tmp 9) (.const (.int .i64 1)) tI,none⟩,⟨some 3,.assign (.tmp 10),none⟩])))) T C Q:=by
 intro j
 induction j with
 | zero =>intro T C hj hI h0 M h3;refine zi6 (Kk (Kk (QZ ?_)));simp[h3];refine Pt (t:=false) (by simp) (λh=>by cases h) λ_=>zi7 ?_;simp_all
 | succ j ih =>
   intro T C hj hI h0 M h3;have rB:((j+1:Nat):Int)-1=(j:Int):=(by omega);rw[rB]at h3;obtain⟨e,he⟩:∃ e,es[j]?=some e:=⟨es[j],az (by omega)⟩;have hem:=aI he;refine zi6 (Kk (Kk (QZ ?_)));simp[h3];refine Pt (t:=true) (by simp) (λ_=>zbo ?_) λh=>(by cases h);refine Kk (WW (Kk ?_));have hbx:=zt7 _ _ hI;refine zqS [⟨some 11,.move (.tmp 0),none⟩,⟨some 12,.move (.tmp 3),none⟩,⟨some 13,.load tS (.tmp 1),none⟩,⟨some 14,.move (.tmp 3),none⟩,⟨some 15,.indexAddr tS (.tmp 13) (.tmp 14),none⟩,⟨some 16,.load tE (.tmp 15),none⟩] (s2:=[⟨some 17,.call ⟨.value (.tmp 11),#[.tmp 12,.tmp 16],#[tI,tE]⟩,none⟩,⟨some 18,.unOp .not tB (.tmp 17),none⟩]) ?_;have hv:=me e hem;simp at hv;simp[h0,M,h3,hbx,zAM,zCm,zDX,cd,he,hv];intro ops l2 vc;obtain⟨o1,l3,rfl,rh,zLV,hg1,hl3⟩:=Rk vc;have hg1:=zb3 hg1;let⟨n,t,a9,h4,h5⟩:=nh j e he _ (hIn _ _ (C.n+2+8) C.log hI (by omega));refine zmi (t:=t) (L:=L) (vs:=[.int .i64 (j:Int),val e]) rh hg1 zLV (zMs _ _ hI _ (by omega)) (by simp) (by simp) (by omega) ?_;refine⟨n,a9,h4,?_⟩;refine zqP hl3 ?_;simp;cases t;refine Pt (t:=true) (by simp) (λ_=>zqT ?_) λh=>(by cases h);simp_all;refine Pt (t:=false) (by simp) (λh=>by cases h) λ_=>zbo ?_;refine QZ ?_;have hw:IntKind.i64.wrap ((j:Int)-1)=(j:Int)-1:=wrap_i64 (by omega) (by omega);simp[h0,M,h3,hw];refine ih _ _ (by omega) (hIn _ _ _ _ h5 (by omega)) (by simp[h0]) (by simp[M]) (by simp)
theorem zl5(hf:E.P.funcs[f]?=some fn)(hb:fn.body.bind aV=some (zqx tS tE tI tB))(hnt:fn.ntmps=19)(oj:fn.results.toList=[])
 (zAM:ti E.P tS=some IS) (zCm:IS.desc=.slice tE) (zDX:ti E.P tE=some IE) {es:Z (Z V)}  (cd:bj IE.size es=true) {val:Z V->V} (me:∀ e∈es,Bh IE e 0=some (val e)) (hlen:es.length<2 ^ 62)
  (kO:Nat->HS->Prop) (zt7:∀ j C,kO j C->C.H.get bx=some (.arr 1 0 [[.sl es tg]] true false false)) (hIn:∀ j C m log,kO j C->C.n<=m->kO j { H:=C.H,n:=m,log:=log }) (zMs:∀ j C,kO j C->∀ i,C.n<=i->C.H.get i=none)
 {J:HS->Prop} (zJm:∀ C m log,J C->C.n<=m->J { H:=C.H,n:=m,log:=log })
 (nh:∀ i e,es[i]?=some e->∀ C,kO (i+1) C->∃ n t a9,zW (rV E n) L [.int .i64 (i:Int),val e] C=some (.bool t,a9)/\(bif t then kO i a9 else J a9))  (h0:kO es.length C) :
 ∃ n a9,(rV E n).call f [.lx L,.ptr bx 0 0] C=some (.tuple [],a9)/\(kO 0 a9\/J a9):=by
 have hbx:=zt7 _ _ h0;have hw:IntKind.i64.wrap ((es.length:Int)-1)=(es.length:Int)-1:=wrap_i64 (by omega) (by omega)
 obtain⟨n,v,a9,M,rfl,O⟩:=zjW (E:=E) (f:=f) (vs:=[.lx L,.ptr bx 0 0]) (C:=C) (T:=(PT.leaf.set 0 (.lx L)).set 1 (.ptr bx 0 0)) (K:=λv a9=>v=.tuple []/\(kO 0 a9\/J a9)) hf hb (by rw[hnt];rfl) (by
  rw[hnt];refine Kk (QZ ?_);simp[hbx,zAM,zCm,hw];refine WW ?_;refine zl4 zAM zCm zDX cd me hlen kO zt7 hIn zMs zJm nh (λT C hI=>?_) (λT C hI=>?_) es.length _ _ (af _) (hIn _ _ _ _ h0 (by omega)) (by simp) (by simp) (by simp)
  all_goals simp only[Ex.inBlock,if_true]
  refine⟨λi h=>(by cases h),?_⟩;rw[oj];exact⟨[],rfl,rfl,.inl hI⟩;refine⟨λi h=>(by cases h),?_⟩;rw[oj]
  exact⟨[],rfl,rfl,.inr hI⟩)
 grind
theorem zbp (hf:E.P.funcs[f]?=some fn) (hb:fn.body.bind aV=some (zqx tS tE tI tB)) (hnt:fn.ntmps=19) (oj:fn.results.toList=[])
 (zAM:ti E.P tS=some IS) (zCm:IS.desc=.slice tE) (zDX:ti E.P tE=some IE) {es:Z (Z V)}  (cd:bj IE.size es=true) {val:Z V->V} (me:∀ e∈es,Bh IE e 0=some (val e)) (hlen:es.length<2 ^ 62)
 {sz:Nat}    {log:Z Nat} {g:Operand}  {sa sb:SC}   (hg:bU T g=some (.func f [.ptr bx 0 0])) (hbx:H0.get bx=some (.arr 1 0 [[.sl es tg]] true false false)) (pH:bx<L) (nN:∀ i,L<=i->H0.get i=none) (hz:∀ v1 v2,∃ T1,IV sz ps.toList [v1,v2] T=some T1)
 (kO:Nat->PT Obj->Prop) (cI:Nat->Z V->PT V->PT Obj->Nat->Prop) (zMt:∀ j H o,kO j H->kO j (H.set L o)) (zJl:∀ j e T H n o,cI j e T H n->cI j e T (H.set L o) n) (h0:kO es.length H0)
  (zOy:∀ H n o,L<n->JJ H n->JJ (H.set L o) n) (zJm:∀ H n n',n<=n'->JJ H n->JJ H n')
 (hA:∀ i e,es[i]?=some e->∀ H n log T1,L<n->(∀ i,n<=i->H.get i=none)->kO (i+1) H->IV sz ps.toList [.int .i64 (i:Int),val e] T=some T1 ->
   Js E true sz sa T1 { H:=H,n:=n,log:=log } λex T2 ea=>ex=.normal/\n<=ea.n/\ea.H.get L=H.get L/\ea.H.get bx=H.get bx/\(∀ i,ea.n<=i->ea.H.get i=none)/\cI i e T2 ea.H ea.n)
 (hB:∀ i e,es[i]?=some e->∀ H n log T2,L<n->(∀ i,n<=i->H.get i=none)->cI i e T2 H n ->
   Js E true sz sb T2 { H:=H,n:=n,log:=log } λex _ iz=>n<=iz.n/\iz.H.get L=H.get L/\(∀ i,iz.n<=i->iz.H.get i=none)/\(ex=.normal/\iz.H.get bx=H.get bx/\kO i iz.H\/ex=.ret/\JJ iz.H iz.n))
 (hQ:∀ H n log,L<n->(∀ i,n<=i->H.get i=none)->kO 0 H->Q .normal T { H:=H,n:=n,log:=log })
 (hR:∀ H n log,L<n->(∀ i,n<=i->H.get i=none)->JJ H n->Q .ret T { H:=H,n:=n,log:=log }) :
 Js E false sz (.range g ps sa sb) T { H:=H0,n:=L,log:=log } Q:=λc hc=>by
 obtain⟨a,b,rfl,ha,ri⟩:=jl hc
 obtain ⟨n,a9,M,hh⟩:=zl5 (f:=f) (L:=L) (bx:=bx) hf hb hnt oj zAM zCm zDX cd me hlen
  (λj C=>C.H.get bx=some (.arr 1 0 [[.sl es tg]] true false false)/\C.H.get L=some (.lp sz T ps.toList a b 0)/\L<C.n/\(∀ i,C.n<=i->C.H.get i=none)/\kO j C.H)
  (λj C h=>h.1) (λj C m log h hm=>⟨h.1,h.2.1,cu h.2.2.1 hm,λi hi=>h.2.2.2.1 i (aO hm hi),h.2.2.2.2⟩) (λj C h=>h.2.2.2.1) (J:=λC=>C.H.get L=some (.lp sz T ps.toList a b 2)/\L<C.n/\(∀ i,C.n<=i->C.H.get i=none)/\JJ C.H C.n) (λC m log h hm=>⟨h.1,cu h.2.1 hm,λi hi=>h.2.2.1 i (aO hm hi),zJm _ _ _ hm h.2.2.2⟩) (by
    intro i e he C ⟨k1,k2,k3,k4,k5⟩;have cg:bx≠L:=(by omega);obtain⟨T1,ir⟩:∃ T1,IV sz ps.toList [.int .i64 (i:Int),val e] T=some T1:=hz _ _;refine zjZ (K:=λt C=>bif t then _ else _) k2 ir (Pv (hA i e he C.H C.n C.log T1 k3 k4 k5 ir a ha) ?_);rintro ex T2 ea ⟨rfl,m1,m2,m3,m4,m5⟩;refine⟨rfl,by rw[m2,k2],?_⟩;have u5:L<ea.n:=cu k3 m1;refine Pv (hB i e he _ ea.n _ T2 u5 (λi hi=>?_) (zJl _ _ _ _ _ (.lp sz T ps.toList a b 1) m5) b ri) ?_;rw[PT.cZ,if_neg (by omega)];exact m4 i hi;rintro ex T3 iz ⟨q1,q2,q4,q⟩;have hv:∀ o i,iz.n<=i->(iz.H.set L o).get i=none:=λo i hi=>(by rw[PT.cZ,if_neg (by omega)];exact q4 i hi);refine⟨by rw[q2,PT.cZ,if_pos rfl],?_⟩;rcases q with⟨rfl,q3,q5⟩|⟨rfl,q5⟩;refine .inl ⟨rfl,?_,by show (iz.H.set L _).get L=_;rw[PT.cZ,if_pos rfl],cu u5 q1,hv _,zMt _ _ _ q5⟩;show (iz.H.set L _).get bx=_;rw[PT.cZ,if_neg cg,q3,PT.cZ,if_neg cg,m3,k1]
    exact .inr ⟨rfl,by show (iz.H.set L _).get L=_;rw[PT.cZ,if_pos rfl],cu u5 q1,hv _,zOy _ _ _ (cu u5 q1) q5⟩)
  (C := HS.put { H:=H0,n:=L+1,log:=log } L (.lp sz T ps.toList a b 0)) (by
    refine⟨?_,?_,ji _,λi hi=>?_,zMt _ _ _ h0⟩;show (H0.set L _).get bx=_;rw[PT.cZ,if_neg (by omega),hbx];show (H0.set L _).get L=_;rw[PT.cZ,if_pos rfl];show (H0.set L _).get i=_;have:L+1<=i:=hi
    rw[PT.cZ,if_neg (by omega)];exact nN i (by omega))
 have hv:∀ o i,L<a9.n->(∀ i,a9.n<=i->a9.H.get i=none)->a9.n<=i->(a9.H.set L o).get i=none:=λo i h4 h5 hi=>by rw[PT.cZ,if_neg (by omega)];exact h5 i hi
 rcases hh with⟨_,h3,h4,h5,h6⟩|⟨h3,h4,h5,h6⟩;refine⟨n+1,.normal,T,a9.wr L (.lp sz T ps.toList a b 1),?_,hQ _ _ _ (show L<a9.n from h4) (λi hi=>hv _ i h4 h5 hi) (zMt _ _ _ h6)⟩;show gd true (ob (bU T g) λv=>GI (rV E n) sz ps a b T { H:=H0,n:=L,log:=log } v)=_;rw[rE,hg,ed];simp only[GI,aC,bI,aK];exact⟨_,rfl,nN L (af _),_,M,_,h3,_,rfl,_,rfl,rfl⟩;refine⟨n+1,.ret,T,a9.wr L (.lp sz T ps.toList a b 1),?_,hR _ _ _ (show L<a9.n from h4) (λi hi=>hv _ i h4 h5 hi) (zOy _ _ _ h4 h6)⟩;show gd true (ob (bU T g) λv=>GI (rV E n) sz ps a b T { H:=H0,n:=L,log:=log } v)=_;rw[rE,hg,ed];simp only[GI,aC,bI,aK];exact⟨_,rfl,nN L (af _),_,M,_,h3,_,rfl,_,rfl,rfl⟩
end
def Bz(g:Nat)(es:Z (Z V))(tg:Bool):EmbD where
 k:=0
 k':=1
 π:=λi=>i
 OL:=[]
 cJ:=[(0,jw (.sl es tg))]
 eb:=[.sl es tg]
 v0:=.func g [.ptr 0 0 0]
def Ip(g:Nat)(vs:Z V)(C:HS):Y EmbD:=match vs with
 | [.sl es tg]=>gd (gW C C.n) (some (Bz g es tg))
 |_=>none
def Nc{es:Z (Z V)}:(Bz g es tg).Good:=by
 refine⟨rfl,rfl,aZ _,(λp hp=>by cases hp),λp hp=>?_,rfl,λv hv=>?_⟩;simp only[Bz,ag]at hp;subst hp;exact⟨rfl,rfl⟩;simp only[Bz,ag]at hv;subst hv;rfl
def QT{D:EmbD}(h:Ip g vs C=some D):∃ es tg,D=Bz g es tg/\D.Good/\D.Fits vs C:=by
 unfold Ip at h;split at h;rename_i es tg;simp only[bI,aK]at h;let⟨M,h⟩:=h;cases h;refine⟨es,tg,rfl,Nc,rfl,λi j hi=>?_,(λp hp=>by cases hp),λi hi=>?_,λi hi=>?_⟩;simp only[Bz]at hi;omega;simp only[Bz]at hi;have:i=0:=by omega
 subst this;exact M;simp only[Bz]at hi;omega;cases h
section
variable {es:Z (Z V)}
@[simp] def zCM:(Bz g es tg).val C=.func g [.ptr C.n 0 0]:=(rfl)
@[simp] def zAb:(Bz g es tg).heap C={ H:=C.H.set C.n (jw (.sl es tg)),n:=C.n+1,log:=C.n::C.log }:=(rfl)
@[simp] def zJT:Ip g [.sl es tg] C=gd (gW C C.n) (some (Bz g es tg)):=(rfl)
end
def vy(rec:G->Nat->Nat)(cL:Nat):Z G->Nat->Nat
 | [],n=>n
 |x::l,n=>if n<=cL then vy rec cL l (n+rec x (cL-n))else n
def B8(w:G->G):Nat->G->Nat->Nat
 | 0,_,cL=>cL+1
 |f+1,t,cL=>min (vy (B8 w f) cL (w t).args 1) (cL+1)
def NK (rec:G->Y G):Z G->Y (Z G)
 | []=>some []
 | x::l=>match rec x,NK rec l with
   |some y,some m=>some (y::m)
   |_,_=>none
def UF (w:G->G):Nat->G->Y G
 | 0,_=>none
 | f+1,t=>match NK (UF w f) (w t).args with
   |some l=>some (.mk (w t).kind (w t).name (w t).id (w t).home l)
   |none=>none
section
variable {w:G->G}
theorem UE{p q:G->Y G}(h:∀ t r,p t=some r->q t=some r):∀ {l m:Z G},NK p l=some m->NK q l=some m:=by
 intro l
 induction l with
 |nil=>intro m h;exact h
 | cons x l ih =>
   grind [NK]
theorem zj5:∀ {f:Nat} {t r:G},UF w f t=some r->UF w (f+1) t=some r:=by
 intro f
 induction f with
 |zero=>intro t r h;cases h
 | succ f ih =>
   grind [UF,UE]
theorem zj6(hfg:f<=g){t r:G}(h:UF w f t=some r):UF w g t=some r:=by
 induction hfg with
 |refl=>exact h
 |step _ ih=>exact zj5 ih
def Rz(w:G->G)(t r:G):Prop:=∃ f,UF w f t=some r
inductive C7 (w:G->G):List G->List G->Prop
 |nil:C7 w [] []
 |cons {x y:G} {l m:List G}:Rz w x y->C7 w l m->C7 w (x::l) (y::m)
def C7.of:∀ {l m:Z G},NK (UF w f) l=some m->C7 w l m:=by
 intro l
 induction l with
 |nil=>intro m h;cases h;exact .nil
 | cons x l ih =>
   intro m h;unfold NK at h;split at h;rename_i y m' M O;cases h;exact .cons ⟨f,M⟩ (ih O);cases h
theorem C7.to{l m:Z G}(h:C7 w l m):∃ f,NK (UF w f) l=some m:=by
 induction h with
 |nil=>exact⟨0,rfl⟩
 | @cons x y l m M O ih =>
   let⟨f,M⟩:=M;let⟨g,ih⟩:=ih;refine⟨max f g,?_⟩;grind [NK,zj6,Nat.le_max_left,UE,Nat.le_max_right]
def zbl{t r:G}:Rz w t r↔∃ l,C7 w (w t).args l/\r=.mk (w t).kind (w t).name (w t).id (w t).home l:=by
 constructor;rintro ⟨f,h⟩
 cases f with
 |zero=>cases h
 | succ f =>rw[UF]at h;split at h;rename_i l hl;cases h;exact⟨l,.of hl,rfl⟩;cases h
 rintro ⟨l,h,rfl⟩;let⟨f,h⟩:=h.to;exact⟨f+1,by rw[UF,h]⟩
def C7.zjO{l m:Z G}(h:C7 w l m):l.length=m.length:=by
 induction h with
 |nil=>rfl
 |cons _ _ ih=>simp[ih]
theorem zns{rec:G->Nat->Nat}:∀ (l:Z G) (n:Nat),n<=vy rec cL l n:=by
 intro l
 induction l with
 |nil=>intro n;exact af _
 | cons x l ih =>
   intro n;unfold vy;grind
theorem ZB:∀ (f:Nat) (t:G) (cL:Nat),cL<f->(∀ r,Rz w t r->B8 w f t cL=min r.size (cL+1))/\((¬ ∃ r,Rz w t r)->B8 w f t cL=cL+1):=by
 intro f
 induction f with
 |zero=>intro t cL h;omega
 | succ f ih =>
   intro t cL hm
   have zLt:∀ {l rs:Z G},C7 w l rs->∀ n,1<=n->min (vy (B8 w f) cL l n) (cL+1)=min (n+G.bj rs) (cL+1):=by
    intro l rs h
    induction h with
    |nil=>intro n _;simp[vy,G.bj]
    | @cons x y l m M O Of =>intro n hn;unfold vy;split;rw[(ih x (cL-n) (by omega)).1 y M,Of _ (by omega)];simp only[G.bj];omega;omega
   have zLs:∀ {l:Z G},(¬ ∃ rs,C7 w l rs)->∀ n,1<=n->min (vy (B8 w f) cL l n) (cL+1)=cL+1:=by
    intro l
    induction l with
    |nil=>intro h;exact absurd ⟨[],.nil⟩ h
    | cons x l Of =>intro h n hn;unfold vy;split;by_cases W:∃ y,Rz w x y;let⟨y,hy⟩:=W;refine Of (λ⟨rs,A6⟩=>h ⟨_,.cons hy A6⟩) _ (by omega);rw[(ih x (cL-n) (by omega)).2 W];have:=zns (rec:=B8 w f) (cL:=cL) l (n+(cL-n+1));omega;omega
   constructor;intro r hr;obtain⟨l,hl,rfl⟩:=zbl.1 hr;rw[B8,zLt hl 1 (af _)];simp only[G.size_eq,G.iT];omega;intro h;rw[B8,zLs (λ⟨l,hl⟩=>h ⟨_,zbl.2 ⟨l,hl,rfl⟩⟩) 1 (af _)]
theorem znr{t:G}(hf:cL<f)(hg:cL<g):B8 w f t cL=B8 w g t cL:=by
 by_cases h:∃ r,Rz w t r;grind [ZB];simp_all [ZB]
def sz(w:G->G)(t:G)(cL:Nat):Nat:=B8 w (cL+1) t cL
theorem znp(t:G)(cL:Nat):sz w t cL=min (vy (sz w) cL (w t).args 1) (cL+1):=by
 unfold sz;rw[B8];congr 1
 have:∀ (l:Z G) (n:Nat),1<=n->vy (B8 w cL) cL l n=vy (λt cL=>B8 w (cL+1) t cL) cL l n:=by
  intro l
  induction l with
  |nil=>intro n _;rfl
  | cons x l ih =>grind [vy,znr]
 exact this _ _ (af _)
def zvQ(t:G)(cL:Nat):sz w t cL<=cL+1:=by rw[znp];omega
theorem zno(t:G)(cL:Nat):1<=sz w t cL:=by
 rw[znp];have:=zns (rec:=sz w) (cL:=cL) (w t).args 1;omega
def TJ{t r:G}(h:Rz w t r)(cL:Nat):sz w t cL=min r.size (cL+1):=(ZB _ t cL (ji _)).1 r h
def zst{t:G}(h:¬ ∃ r,Rz w t r)(cL:Nat):sz w t cL=cL+1:=(ZB _ t cL (ji _)).2 h
def zhv{t:G}:sz w t cL<=cL↔∃ r,Rz w t r/\r.size<=cL:=by
 constructor;intro h;by_cases hr:∃ r,Rz w t r;let⟨r,hr⟩:=hr;rw[TJ hr]at h;exact⟨r,hr,by omega⟩;rw[zst hr]at h;omega;rintro ⟨r,hr,h⟩;rw[TJ hr];omega
end
namespace ao
def w16(s:ao):G->G:=s.mE (s.bc.length+1)
def w(s:ao):G->G:=s.mE s.bc.length
def mF(s:ao):Prop:=s.bc.length<=1000/\∀ x∈s.bc,x.type.ok=true
instance (s:ao):Decidable s.mF:=by unfold mF;infer_instance
theorem zDW{s:ao}(h:s.mF)(t:G):(s.to t).ok=true:=by
 unfold to;split;rename_i x W;let⟨i,_,hi,W⟩:=gg W;have:=(aM.1 W).2;exact h.2 x (this ▸ ax hi);rfl
theorem Uh{s:ao}(h:s.mF):∀ (n:Nat) {t:G},t.ok=true->(s.mE n t).ok=true:=by
 intro n
 induction n with
 |zero=>intro t ht;exact ht
 | succ n ih =>
   grind [mE,zDW]
end ao
def la:Z Slot->Z Bool->Nat
 |x::l,b::m=>(if b=true then 0 else x.type.size)+la l m
 |_,_=>0
theorem Zy:∀ {l:Z Slot} {m:Z Bool} {i:Nat} {x:Slot},l[i]?=some x->m[i]?=some false->la l (m.set i true)+x.type.size=la l m:=by
 intro l
 induction l with
 |nil=>intro m i x h;simp at h
 | cons y l ih =>
   intro m i x h O
   cases m with
   |nil=>simp at O
   | cons b m =>
     cases i with
     | zero =>grind [la]
     | succ i =>
       grind [la]
def Q8 (s:ao):Nat->G->Z Int×Z Bool->Z Int×Z Bool
 | 0,_,st=>st
 | f + 1,t,st=>if t.kind=1 then
     (if s.bound t=true then (if st.2[t.id.toNat]?=some false then Q8 s f (s.to t) (st.1,st.2.set t.id.toNat true)else st)
       else if t.id∈st.1 then st else (st.1++[t.id],st.2))
   else t.args.foldl (λst x=>Q8 s f x st) st
def ao.pY{s:ao}{t:G}(h:s.bound t=true):t.kind=1/\∃ i:Nat,∃ x,t.id=i/\i<s.bc.length/\s.bc[i]?=some x/\x.bound=true/\s.to t=x.type:=by
 unfold ao.bound at h;split at h;rename_i x hk W;let⟨i,hi,hl,z6⟩:=ao.gg W;exact⟨by simpa using hk,i,x,hi,hl,z6,h,by unfold ao.to;rw[W]⟩;cases h
def Mp(s:ao)(c:Nat)(st h2:Z Int×Z Bool):Prop:=h2.2.length=st.2.length/\st.1.length<=h2.1.length/\la s.bc h2.2<=la s.bc st.2/\h2.1.length+la s.bc h2.2<=st.1.length+la s.bc st.2+c
theorem Mp.refl{s:ao}{c:Nat}{st:Z Int×Z Bool}:Mp s c st st:=⟨rfl,af _,af _,by omega⟩
def Mp.trans{s:ao}{c:Nat}{a b e:Z Int×Z Bool}(h:Mp s c a b)(h':Mp s d b e):Mp s (c+d) a e:=by
 cases h;let⟨g1,g2,g3,g4⟩:=h';exact⟨by omega,by omega,by omega,by omega⟩
def zmP{s:ao}(ih:∀ t st,Mp s t.size st (Q8 s f t st)):∀ (l:Z G) (st:Z Int×Z Bool),Mp s (G.bj l) st (l.foldl (λst x=>Q8 s f x st) st):=by
 intro l
 induction l with
 |nil=>intro st;exact .refl
 | cons x l Of =>
   intro st;simp only[ky,G.bj];exact(ih x st).trans (Of _)
def zeA (s:ao):∀ (f:Nat) (t:G) (st:Z Int×Z Bool),Mp s t.size st (Q8 s f t st):=by
 intro f
 induction f with
 |zero=>intro t st;exact .refl
 | succ f ih =>
   intro t st;rw[Q8];split;split;rename_i hb;split;rename_i hd;let⟨_,i,x,hi,hl,W,_,wc⟩:=ao.pY hb;rw[hi,bO]at hd ⊢;rw[wc];have M:=Zy W hd;let⟨k1,k2,k3,k4⟩:=ih x.type (st.1,st.2.set i true);simp only[List.length_set]at k1 k2 k3 k4;exact⟨k1,k2,by omega,by omega⟩;exact .refl;split;exact .refl;have:=G.size_pos t;exact⟨rfl,by simp,af _,by simp;omega⟩;have h:=zmP ih t.args st;let⟨k1,k2,k3,k4⟩:=h;have:=G.size_eq t;exact⟨k1,k2,k3,by omega⟩
def qX(s:ao)(l:Z G):Z Int:=(l.foldl (λst x=>Q8 s 100000 x st) (([]:Z Int),List.replicate s.bc.length false)).1
def yw(s:ao)(l:Z G):Prop:=s.mF/\G.fl l=true/\l.length<=10000/\G.bj l+la s.bc (List.replicate s.bc.length false)<=100000
instance (s:ao)(l:Z G):Decidable (yw s l):=by unfold yw;infer_instance
namespace ao
def uG(s:ao)(t:G):Bool:=decide (t.kind=1)&&(s.cE t.id).isSome
def iH(s:ao)(i:Int):Slot:=(s.cE i).getD zD4
def gA(x y:G):Prop:=x.kind≠y.kind\/x.name≠y.name\/x.id≠y.id\/x.home≠y.home\/x.args.length≠y.args.length
instance (x y:G):Decidable (gA x y):=by unfold gA;infer_instance
theorem Dh{s:ao}{t:G}(h:s.bound t=true):t.kind=1:=(D8 h).1
def below(s:ao)(u t:G):Prop:=(s.bound t=true/\u=s.to t)\/(s.bound t=false/\u∈t.args)
def Fin(s:ao)(t:G):Prop:=Acc s.below t
def Fin.ind{s:ao}{p:G->Prop}(hb:∀ t,s.bound t=true->p (s.to t)->p t)(hn:∀ t,s.bound t=false->(∀ u∈t.args,p u)->p t){t:G}(h:s.Fin t):p t:=by
 induction h with
 | intro t _ ih =>
   cases hh:s.bound t with
   |true=>exact hb t hh (ih _ (.inl ⟨hh,rfl⟩))
   |false=>exact hn t hh λu hu=>ih u (.inr ⟨hh,hu⟩)
theorem Fin.W3{s:ao}{t:G}(hb:s.bound t=true)(h:s.Fin (s.to t)):s.Fin t:=.intro t λu hu=>by
 rcases hu with⟨_,rfl⟩|⟨M,_⟩;exact h;rw[hb]at M;cases M
def Fin.zBH{s:ao}{t:G}(hb:s.bound t=false)(h:∀ u∈t.args,s.Fin u):s.Fin t:=.intro t λu hu=>by
 rcases hu with⟨M,_⟩|⟨_,M⟩;rw[hb]at M;cases M;exact h u M
inductive Reach (s:ao) (id:Int):G->Prop
 |here {t:G}:t.kind=1->t.id=id->Reach s id t
 |to {t:G}:s.bound t=true->Reach s id (s.to t)->Reach s id t
 |arg {t u:G}:s.bound t=false->u∈t.args->Reach s id u->Reach s id t
structure zHk(s s':ao)(id:Int)(t:G):Prop where
 other:∀ u:G,¬ (u.kind=1/\u.id=id)->s'.bound u=s.bound u/\(s.bound u=true->s'.to u=s.to u)
 self:∀ u:G,u.kind=1->u.id=id->s'.bound u=true/\s'.to u=t
def zHk.zMF{s s':ao}{id:Int}{t:G}(h:zHk s s' id t){u:G}(hu:s.Fin u):¬ Reach s id u->s'.Fin u:=by
 have:∀ u,s.Fin u->(¬ Reach s id u->s'.Fin u):=λu hu=>by refine Fin.ind (p:=λu=>¬ Reach s id u->s'.Fin u) (λu hb ih hr=>?_) (λu hb ih hr=>?_) hu;let⟨M,O⟩:=h.other u λhh=>hr (.here hh.1 hh.2);refine Fin.W3 (M.trans hb) ?_;rw[O hb];exact ih λhh=>hr (.to hb hh);let⟨M,_⟩:=h.other u λhh=>hr (.here hh.1 hh.2);exact Fin.zBH (M.trans hb) λx W=>ih x W λhh=>hr (.arg hb W hh)
 exact this u hu
theorem zHk.fin{s s':ao}{id:Int}{t:G}(h:zHk s s' id t)(ht:s.Fin t)(hr:¬ Reach s id t){u:G}(hu:s.Fin u):s'.Fin u:=by
 have ht':=h.zMF ht hr;refine Fin.ind (p:=s'.Fin) (λu hb ih=>?_) (λu hb ih=>?_) hu;by_cases hi:u.kind=1/\u.id=id;let⟨M,O⟩:=h.self u hi.1 hi.2;grind [Fin.W3];let⟨M,O⟩:=h.other u hi;grind [Fin.W3];by_cases hi:u.kind=1/\u.id=id;let⟨M,O⟩:=h.self u hi.1 hi.2;grind [Fin.W3];exact Fin.zBH ((h.other u hi).1.trans hb) ih
inductive Ends (s:ao):G->Nat->Prop
 |stop {t:G}:s.bound t=false->Ends s t 0
 |step {t:G} {d:Nat}:s.bound t=true->Ends s (s.to t) d->Ends s t (d+1)
def Ends.uniq{s:ao}{t:G}(h:Ends s t d):∀ {e:Nat},Ends s t e->d=e:=by
 induction h with
 | stop hb =>
   intro e O
   cases O with
   |stop=>rfl
   |step ri _=>rw[hb]at ri;cases ri
 | step hb _ ih =>
   intro e O
   cases O with
   |stop ri=>rw[hb]at ri;cases ri
   |step _ h3=>rw[ih h3]
def Fin.ends{s:ao}{t:G}(h:s.Fin t):∃ d,Ends s t d :=
 Fin.ind (p:=λt=>∃ d,Ends s t d) (λ_ hb ⟨d,hd⟩=>⟨d+1,.step hb hd⟩) (λ_ hb _=>⟨0,.stop hb⟩) h
theorem zdW{s:ao}{t u:G}(ht:s.bound t=true)(hk:u.kind=1)(hi:u.id=t.id):s.bound u=true/\s.to u=s.to t:=by
 let⟨M,x,O,h3⟩:=D8 ht;refine⟨?_,?_⟩;grind [J5];unfold ao.to;rw[hi]
theorem Ends.id{s:ao}{t u:G}{e:Nat}(ht:Ends s t (d+1))(hu:Ends s u (e+1))(hi:t.id=u.id):d=e:=by
 cases ht with
 | step hb M =>
   cases hu with
   | step ri O =>
     let⟨_,e1⟩:=zdW hb (Dh ri) hi.symm;rw[e1]at O;exact M.uniq O
theorem zfk:∀ (n:Nat) (l:Z Nat),l.Nodup->(∀ x∈l,x<n)->l.length<=n:=by
 intro n
 induction n with
 | zero =>
   intro l _ h
   cases l with
   |nil=>exact af _
   |cons x l=>exact absurd (h x (aB ..)) (l9 _)
 | succ n ih =>
   intro l hn h;have M:=ih (l.erase n) (hn.erase n) λx W=>(by grind);grind
theorem Ends.ids{s:ao}{t:G}(h:Ends s t d):∃ l:Z Nat,l.length=d/\l.Nodup/\∀ x∈l,x<s.bc.length/\∃ u e,Ends s u (e+1)/\e<d/\u.id=(x:Int):=by
 induction h with
 |stop _=>exact⟨[],rfl,jP,λx W=>by cases W⟩
 | @step t d hb M ih =>
   let⟨l,O,h3,h4⟩:=ih;let⟨_,x,W,_⟩:=D8 hb;let⟨i,hi,cF,_⟩:=gg W;refine⟨i::l,by simp[O],gK.2 ⟨λhm=>?_,h3⟩,λy hy=>?_⟩;let⟨_,u,e,h5,h6,h7⟩:=h4 i hm;have:=Ends.id (.step hb M) h5 (by rw[hi,h7]);omega;rcases ay.1 hy with rfl|hy;exact⟨cF,t,d,.step hb M,by omega,hi⟩;grind
def Ends.le{s:ao}{t:G}(h:Ends s t d):d<=s.bc.length:=by
 let⟨l,M,O,h3⟩:=h.ids;rw[<- M];exact zfk _ l O λx W=>(h3 x W).1
theorem Ends.walk {s:ao} {t:G}  (h:Ends s t d):∀ n,d<=n->s.mE n t=s.mE d t/\s.bound (s.mE d t)=false:=by
 induction h with
 | @stop t hb =>
   intro n _;refine⟨?_,hb⟩
   cases n with
   |zero=>rfl
   |succ n=>show s.mE (n+1) t=t;unfold ao.mE;rw[hb];rfl
 | @step t d hb M ih =>
   intro n hn
   cases n with
   |zero=>omega
   | succ n =>
     have:=ih n (by omega);have e1:∀ m,s.mE (m+1) t=s.mE m (s.to t):=λm=>(by show (if s.bound t=true then _ else _)=_;rw[if_pos hb]);grind
theorem Fin.walk{s:ao}{t:G}(h:s.Fin t):s.bound (s.w16 t)=false/\s.w t=s.w16 t:=by
 let⟨d,hd⟩:=h.ends;have M:=hd.walk (s.bc.length+1) (by have:=hd.le;omega);have O:=hd.walk s.bc.length hd.le;simp_all [w16,w]
end ao
inductive AF:G->G->Prop
 |self {t:G}:t.kind=1->AF t t
 |arg {t u x:G}:t.kind≠1->x∈t.args->AF u x->AF u t
def AF.var{u t:G}(h:AF u t)(hk:t.kind=1):u=t:=by
 cases h with
 |self _=>rfl
 |arg h _ _=>exact absurd hk h
namespace ao
abbrev St:=Z Int×Z Bool
def RM(s:ao)(st:St)(t:G):Prop:=∀ u,AF u t->(s.bound u=true->st.2[u.id.toNat]?=some true)/\(s.bound u=false->u.id∈st.1)
def Inv(s:ao)(st:St)(cN:Z Nat):Prop:=∀ (i:Nat) (x:Slot),s.bc[i]?=some x->x.bound=true->st.2[i]?=some true->i ∉ cN->s.RM st x.type
structure WT(st h2:St):Prop where
 out:∀ v∈st.1,v∈h2.1
 done:∀ i:Nat,st.2[i]?=some true->h2.2[i]?=some true
 len:h2.2.length=st.2.length
theorem WT.refl{st:St}:WT st st:=⟨λ_ h=>h,λ_ h=>h,rfl⟩
def WT.trans{a b c:St}(h:WT a b)(k:WT b c):WT a c:=⟨λv hv=>k.out v (h.out v hv),λi hi=>k.done i (h.done i hi),k.len.trans h.len⟩
theorem RM.mono{s:ao}{st h2:St}{t:G}(h:s.RM st t)(m:WT st h2):s.RM h2 t:=λu hu=>⟨λhb=>m.done _ ((h u hu).1 hb),λhb=>m.out _ ((h u hu).2 hb)⟩
theorem Inv.mono{s:ao}{st h2:St}(h:s.Inv st cN)(m:WT st h2)(hd:∀ i,h2.2[i]?=some true->i ∉ cN->st.2[i]?=some true):s.Inv h2 cN :=
 λi x W hb hi hG=>(h i x W hb (hd i hi hG) hG).mono m
structure zNg(s:ao)(P:Int->Prop)(cN:List Nat)(st h2:St):Prop where
 mono:WT st h2
 inv:s.Inv h2 cN
 out:∀ v∈h2.1,v∈st.1\/P v
 la:J.la s.bc h2.2<=J.la s.bc st.2
def zr2{s:ao}(ih:∀ (t:G) (st:St),(∀ u,AF u t->P u.id)->t.size+J.la s.bc st.2<=f->st.2.length=s.bc.length->s.Inv st cN->zNg s P cN st (Q8 s f t st)/\s.RM (Q8 s f t st) t) :
 ∀ (l:Z G) (st:St),(∀ x∈l,∀ u,AF u x->P u.id)->G.bj l+J.la s.bc st.2<=f->st.2.length=s.bc.length->s.Inv st cN ->
   zNg s P cN st (l.foldl (λst x=>Q8 s f x st) st)/\∀ x∈l,s.RM (l.foldl (λst x=>Q8 s f x st) st) x:=by
 intro l
 induction l with
 |nil=>intro st _ _ _ hi;exact⟨⟨.refl,hi,λv hv=>.inl hv,af _⟩,λx W=>by cases W⟩
 | cons a l A1 =>
   intro st hP hf hl hi;simp only[G.bj]at hf;let⟨M,O⟩:=ih a st (hP a (aB ..)) (by omega) hl hi;have h1u:=M.la;let⟨h3,h4⟩:=A1 (Q8 s f a st) (λx W=>hP x (aD _ W)) (by omega) (M.mono.len.trans hl) M.inv;rw[ky];refine⟨⟨M.mono.trans h3.mono,h3.inv,λv hv=>?_,aO h3.la M.la⟩,λx W=>?_⟩;rcases h3.out v hv with h|h;exact M.out v h;exact .inr h;rcases ay.1 W with rfl|W;exact O.mono h3.mono;exact h4 x W
theorem zr1 {s:ao}  (hP:∀ x∈s.bc,x.bound=true->∀ u,AF u x.type->P u.id):∀ (f:Nat) (cN:Z Nat) (t:G) (st:St),(∀ u,AF u t->P u.id)->t.size+J.la s.bc st.2<=f->st.2.length=s.bc.length->s.Inv st cN ->
 zNg s P cN st (Q8 s f t st)/\s.RM (Q8 s f t st) t:=by
 intro f
 induction f with
 |zero=>intro cN t st _ hf;have:=G.size_pos t;omega
 | succ f ih =>
   intro cN t st zOu hf hl hi;have cd:=G.size_pos t;rw[Q8];split;rename_i hk;split;rename_i hb;let⟨_,i,x,hid,cF,W,A3,wc⟩:=pY hb;have zy3:t.id.toNat=i:=(by rw[hid];rfl);rw[zy3,wc];split;rename_i hd;have M:=Zy W hd
   have m1:WT st (st.1,st.2.set i true):=⟨λ_ h=>h,λj hj=>by
    rw[mR];split;rename_i e;subst e;rw[if_pos (by rw[hl];exact cF)]
    exact hj,by simp⟩
   have sY:s.Inv (st.1,st.2.set i true) (i::cN):=λj y hy hyb hj hG=>(by have cg:j≠i:=λe=>hG (by simp[e]);have gO:st.2[j]?=some true:=(by grind);exact(hi j y hy hyb gO λh=>hG (aD _ h)).mono m1);let⟨r1,r2⟩:=ih (i::cN) x.type (st.1,st.2.set i true) (hP x (aI W) A3) (by simp only;omega) (by simp[hl]) sY;have hdi:(Q8 s f x.type (st.1,st.2.set i true)).2[i]?=some true:=r1.mono.done i (by simp[hl,cF]);refine⟨⟨m1.trans r1.mono,λj y hy hyb hj hG=>?_,r1.out,by have:=r1.la;simp only at this;omega⟩,λu hu=>?_⟩;by_cases e:j=i;grind;exact r1.inv j y hy hyb hj (by simp[e,hG]);rw[hu.var hk,zy3];grind;rename_i hd;refine⟨⟨.refl,hi,λv hv=>.inl hv,af _⟩,λu hu=>?_⟩;rw[hu.var hk,zy3];simp_all;rename_i hb;split;rename_i hm;refine⟨⟨.refl,hi,λv hv=>.inl hv,af _⟩,λu hu=>?_⟩;rw[hu.var hk];grind;have m1:WT st (st.1++[t.id],st.2):=⟨λv hv=>dQ _ hv,λj hj=>hj,rfl⟩;refine⟨⟨m1,hi.mono m1 λj hj _=>hj,λv hv=>?_,af _⟩,λu hu=>?_⟩;rcases bu.1 hv with h|h;exact .inl h;rw[ag.1 h];exact .inr (zOu t (.self hk));rw[hu.var hk];grind;rename_i hk;have xd:=G.size_eq t;let⟨M,O⟩:=zr2 (λt st=>ih cN t st) t.args st (λx W u hu=>zOu u (.arg hk W hu)) (by omega) hl hi;refine⟨M,λu hu=>?_⟩
   cases hu with
   |self h=>exact absurd h hk
   |arg _ W zP5=>exact O _ W u zP5
end ao
end Go.J
