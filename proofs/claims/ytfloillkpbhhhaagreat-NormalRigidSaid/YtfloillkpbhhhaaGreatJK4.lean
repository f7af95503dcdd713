import Derived.Test.YtfloillkpbhhhaaGreatJK3
set_option linter.all false
noncomputable section
namespace Go.J
variable {a:Act}{ts:Array TypeId}{dr q:Bool}{c:Call}{Q:Ending->World->Prop}{ev:Ev}{e:Ex}{f:FuncId}{l:FuncId×PT V×Z Nat×Code×Code×Nat}{C a8:HS}{b i j k m t:Nat}{μ μ':Nat->Nat->Y MI}{F F' F2 S:Nat->Prop}{G' cL:Nat->Y Obj}{o y:Oper}{T T':PT V}{P:Program}{α:Type}{tR:TypeId}{v:V}{x:Value}{p:V×HS}{w' w2:World}{ds:Y (Z Deferred)}{pd:Y Code}{r:Y Nat}{d:Y Tmp}{ps:Z Nat}{vs:Z V}
section
variable {I:Nat->Value}{w:World}
def zyR(I:Nat->Value)(P:Program)(w:World)(F:Nat->Prop)(μ:Nat->Nat->Y MI)(C:HS)(v:V)(a8:HS):Ending->World->Prop
 |.returned x,w'=>∃ F' μ',R I w' F' μ' P a8/\dV I w' F' μ' v x/\Fr w F μ C w' F' μ' a8
 |_,_=>False
def Mq(I:Nat->Value)(w:World)(F:Nat->Prop)(μ:Nat->Nat->Y MI)(vs:Z V)(xs:Array Value):Prop :=
 xs.size=vs.length/\∀ (i:Nat) (v:V),vs[i]?=some v->∃ x,xs[i]?=some x/\dV I w F μ v x
def aT(I:Nat->Value)(P:Program)(f:FuncId)(vs:Z V)(C:HS)(v:V)(a8:HS):Prop :=
 ∀ X w F μ xs,R I w F μ P C->Ol X μ C->pj X a8->Mq I w F μ vs xs->CallsIn Fence.wide 0 P f xs w (zyR I P w F μ C v a8)
def jM:∀ {vs:Z V},cu vs=true->∀ v∈vs,v.pure=true:=by
 intro vs
 induction vs with
 |nil=>intro _ v hv;simp at hv
 | cons u vs ih =>
   intro h v hv;replace h:et u.pure (cu vs)=true:=h;rw[dx]at h;rcases aB.1 hv with rfl|hv
   . exact h.1
   . exact ih h.2 v hv
theorem alone(hR:R I w F μ P C)(CH:Io w w')(b8:w.heap.size<=w'.heap.size)(hk:∀ b,b<w.heap.size->w'.heap[b]?=w.heap[b]?) :
 R I w' (λb=>F b\/(w.heap.size<=b/\b<w'.heap.size)) μ P C/\Fr w F μ C w' (λb=>F b\/(w.heap.size<=b/\b<w'.heap.size)) μ C:=by
 have h:=hR.grow b8 hk;have hold:∀ id g m,μ id g=some m->¬ (w.heap.size<=m.b/\m.b<w'.heap.size):=λid g m hm hb=>by have:=hR.lt _ _ _ hm;omega
 refine⟨⟨h.lt,?_,?_,h.inj,h.y7,h.gl.bw (λ_ h=>.inl h) λ_ _=>rfl⟩,⟨CH,b8,λb hb _=>hk b hb,λb hb=>.inl hb,?_,λ_ _ _ h=>h,λb hb=>.inl hb,λ_ h=>h,λ_ _ _=>rfl,λ_ _ h=>h,λi g m h=>.inr ⟨i,g,m,h,rfl⟩⟩⟩
 . rintro b (hb|hb)
   . exact h.Bj b hb
   . exact hb.2
 . intro id o ho;refine(h.obj id o ho).mono (λ_ h=>.inl h) (λ_ _=>rfl) (λ_ _ _ h=>h) (λ_ h=>h) (λ_ _=>rfl) ?_;rintro m hm _ hn (hF|hb)
   . exact hn hF
   . exact hold _ _ _ hm hb
 . rintro b (hb|hb)
   . exact .inl hb
   . exact .inr (.inl hb.1)
theorem QW(hp:cu vs=true)(hc:∀ {v a8},ev.call f vs ji=some (v,a8)->aT I P f vs ji v a8)
 (h:rG ev f vs C=some (v,a8)):aT I P f vs C v a8:=by
 simp only[rG,aA]at h;obtain⟨⟨v1,cm⟩,M,v',O,h⟩:=h;cases h;intro X w F μ xs hR hD hO hA
 have m8:Mq I w F (λ_ _=>none) vs xs:=⟨hA.1,λi u hi=>by
  obtain⟨x,hx,hr⟩:=hA.2 i u hi
  exact⟨x,hx,.pure (hr.BZ I (jM hp u (aC hi)))⟩⟩
 refine(hc M _ w F (λ_ _=>none) xs (R.empty hR.Bj hR.gl) Ol.empty (pj.no _) m8).mono λe w' he=>?_
 cases e with
 | returned x =>
   obtain⟨F1,μ1,g1,g2,g3⟩:=he;have iS:∀ b,b<w.heap.size->w'.heap[b]?=w.heap[b]?:=λb hb=>g3.bw b hb (ug b _)
   obtain⟨a1,a2⟩:=alone hR g3.io g3.size iS;refine⟨_,μ,a1,.pure (OD g1 g2 O ?_ ?_),a2⟩
   . intro b hb;have cC:=g1.Bj b hb;rcases g3.Ci b hb with h|h|h
     . exact .inl h
     . exact .inr ⟨h,cC⟩
     . exact absurd h (ug b _)
   . intro id g m hm;rcases g3.mn id g m hm with h|⟨i,j,m0,h,_⟩
     . exact .inr ⟨h,g1.lt _ _ _ hm⟩
     . cases h
 |panicked c=>exact he
 |outgrown=>exact he
def JR(h:dV I w F μ v x)(C:v.Iy=true):fG I w2 F2 v x:=by
 cases h with
 |pure h=>cases h<;>first|(cases C;done)|constructor
 |_=>cases C
theorem zhO:∀ {vs:Z V},ztC vs=true->∀ v∈vs,v.Iy=true:=by
 intro vs
 induction vs with
 |nil=>intro _ v hv;simp at hv
 | cons u vs ih =>
   intro h v hv;replace h:et u.Iy (ztC vs)=true:=h;rw[dx]at h
   grind
def zbg(h:dV I w F μ v x)(C:v.N0=true):fG I w2 F2 v x:=by
 unfold V.N0 at C;split at C
 . obtain⟨ys,rfl,M,O⟩:=h.wQ;exact .agg _ ys M λi v hi=>JR (O i v hi) (zhO C v (aC hi))
 . obtain⟨ys,rfl,M,O⟩:=h.qx;exact .tuple _ ys M λi v hi=>JR (O i v hi) (zhO C v (aC hi))
 . exact JR h C
def zcH{jt:Z V}(hp:lT C vs=some jt)(hc:∀ {v a8},ev.call f jt ji=some (v,a8)->aT I P f jt ji v a8)
 (h:nT ev f jt C=some (v,a8)):aT I P f vs C v a8:=by
 simp only[nT,aA,bE]at h;obtain⟨⟨v1,cm⟩,M,O,h⟩:=h;cases h;intro X w F μ xs hR hD hO hA;obtain⟨hlen,b6⟩:=JO hR (F':=λb=>b<w.heap.size) hR.Bj hp (λ_ _ _ _ id g off len cap _ m hm=>hR.lt id g m hm)
 have m8:Mq I w (λb=>b<w.heap.size) (λ_ _=>none) jt xs:=⟨hA.1.trans hlen.symm,λi u hi=>by
  obtain⟨u0,hu0,hr⟩:=b6 i u hi;obtain⟨x,hx,xa⟩:=hA.2 i u0 hu0
  exact⟨x,hx,.pure (hr x xa)⟩⟩
 refine(hc M _ w _ (λ_ _=>none) xs (R.empty (λ_ h=>h) (hR.gl.bw hR.Bj λ_ _=>rfl)) Ol.empty (pj.no _) m8).mono λe w' he=>?_
 cases e with
 | returned x =>
   obtain⟨F1,μ1,g1,g2,g3⟩:=he;have iS:∀ b,b<w.heap.size->w'.heap[b]?=w.heap[b]?:=λb hb=>g3.bw b hb (ug b _)
   obtain⟨a1,a2⟩:=alone hR g3.io g3.size iS;exact⟨_,μ,a1,.pure (zbg g2 O),a2⟩
 |panicked c=>exact he
 |outgrown=>exact he
def YS(v:V)(l:Z V)(C:HS):mf (v::l) C=W (ng v C) λr=>W (mf l r.2) λq=>some (r.1::q.1,q.2):=rfl
theorem CW{I:Nat->Value}{w:World}:∀ {l l':Z V} {xs:Z Value} {C a8:HS} {F:Nat->Prop},mf l C=some (l',a8)->R I w F μ P C ->
 (∀ (i:Nat) (v:V),l[i]?=some v->∃ x,xs[i]?=some x/\dV I w F μ v x) ->
 ∃ F',R I w F' μ P a8/\Fr w F μ C w F' μ a8/\Kept C a8/\l'.length=l.length/\∀ (i:Nat) (v:V),l'[i]?=some v->∃ x,xs[i]?=some x/\fG I w F' v x:=by
 intro l
 induction l with
 | nil =>
   intro l' xs C a8 F h hR _;cases h
   grind [Fr.refl,Kept.refl]
 | cons v l ih =>
   intro l' xs C a8 F h hR Bs;rw[YS]at h;simp only[aA]at h;obtain⟨⟨u,cm⟩,hu,⟨m,dt⟩,hm,h⟩:=h;cases h;obtain⟨x0,w8,xa⟩:=Bs 0 v rfl;obtain⟨F1,M,O,_,h4⟩:=zC hR xa hu
   obtain⟨F2,k1,k2,k3,k4,k5⟩:=ih (xs:=xs.drop 1) hm M (λi y hi=>by
    obtain⟨x,hx,hr⟩:=Bs (i+1) y (by simpa using hi)
    exact⟨x,by simpa [mZ]using hx,O.rep hR hr⟩)
   refine⟨F2,k1,O.trans k2,(oQ hu).trans k3,by simp[k4],λi y hi=>?_⟩
   cases i with
   |zero=>cases hi;exact⟨x0,w8,k2.zIZ M h4⟩
   | succ i =>
     grind
def zrE{r:V×HS}(hR:R I w F μ P r.2)(hx:dV I w F μ r.1 x)(h:SW r=some p) :
 ∃ F',R I w F' μ P p.2/\Fr w F μ r.2 w F' μ p.2/\dV I w F' μ p.1 x:=by
 unfold SW at h;split at h
 . rename_i vs hv;rw[hv]at hx;simp only[aA]at h;obtain⟨q,hq,h⟩:=h;cases h;obtain⟨ys,rfl,M,O⟩:=hx.qx
   obtain⟨F',a1,a2,_,a4,a5⟩:=CW (xs:=ys.toList) (l':=q.1) (a8:=q.2) hq hR (λi v hi=>by
    have cC:i<ys.size:=by rw[M];exact(aM.1 hi).1
    refine⟨ys[i],by simp[cC],?_⟩;have:=O i v hi
    rwa [bR,fe cC]at this)
   refine⟨F',a1,a2,.tuple _ ys (by rw[M,a4]) λi v hi=>?_⟩;obtain⟨y,hy,hr⟩:=a5 i v hi;have HG:ys[i]?=some y:=by simpa using hy
   rw[bR,HG];exact .pure hr
 . obtain⟨F',a1,a2,_,a4⟩:=zC (v':=p.1) (a8:=p.2) hR hx h;exact⟨F',a1,a2,.pure a4⟩
theorem zkG {E:Env}     (hc:∀ {vs C v a8},ev.call f vs C=some (v,a8)->aT I P f vs C v a8)
 (h:ET E ev f vs C=some (v,a8)):aT I P f vs C v a8:=by
 unfold ET at h
 cases hp:E.wx f with
 | zero =>
   rw[hp]at h;replace h:bi (cu vs) (rG ev f vs C) (ev.call f vs C)=some (v,a8):=h
   grind [iO,QW]
 | succ m =>
   rw[hp]at h
   cases m with
   |zero=>exact hc h
   | succ m =>
     cases m with
     | zero =>
       replace h:vP (ev.call f vs C) (λey=>nT ev f ey C) (lT C vs)=some (v,a8):=h
       cases cm:lT C vs with
       |none=>rw[cm]at h;exact hc h
       |some ey=>rw[cm]at h;exact zcH cm hc h
     | succ m =>
       replace h:Al ev f vs C=some (v,a8):=h;simp only[Al,aA]at h;obtain⟨⟨v1,cm⟩,hq,h⟩:=h
       cases hp:SW (v1,cm)with
       |none=>rw[hp]at h;cases h;exact hc hq
       | some p =>
         rw[hp]at h;cases h;intro X w F μ xs hR hD hO hA;refine(hc hq X w F μ xs hR hD ((WV hp).off hO) hA).mono λe w' he=>?_
         cases e with
         | returned x =>
           obtain⟨F1,μ1,g1,g2,g3⟩:=he;obtain⟨F2,k1,k2,k3⟩:=zrE g1 g2 hp;exact⟨F2,μ1,k1,k3,g3.trans k2⟩
         |panicked c=>exact he
         |outgrown=>exact he
def zvv(I:Nat->Value)(E:Env):Prop:=∀ {f vs C v a8},E.dE f vs C=some (v,a8)->aT I E.P f vs C v a8
def zoY{E:Env}(aq:zvv I E)(hc:∀ {vs C v a8},ev.call f vs C=some (v,a8)->aT I E.P f vs C v a8)
 (h:FL E ev f vs C=some (v,a8)):aT I E.P f vs C v a8:=by
 unfold FL at h
 cases hq:E.dE f vs C with
 |none=>rw[hq]at h;exact zkG hc h
 |some q=>rw[hq]at h;cases h;exact aq hq
end
def Wr(r:Y Nat):Fence:={ Fence.wide with round:=r }
def Vh{xs:Array Value}{w:World}(h:CallsIn Fence.wide 0 P f xs w Q):CallsIn (Wr r) 0 P f xs w Q:=h
structure NB where
 n:Nat
 base:List Deferred
 plain:Bool:=false
def Marks(N:NB)(w:World)(ds:Z Deferred):Prop :=
 N.n<=w.heap.size/\∃ rs:Z Nat,(rs.Nodup/\(N.plain=true->rs=[]))/\ds=rs.map (λr=>{ target:=.collected r,args:=#[] })++N.base/\∀ r∈rs,N.n<=r/\w.heap[r]?=some (.deferred (some []))
def zoB:Ex->Exit
 |.normal=>.normal
 |.ret=>.ret
 |.exit id=>.exit id
def Marks.nil{N:Nat}{p:Bool}{w:World}(h:N<=w.heap.size):Marks ⟨N,[],p⟩ w []:=⟨h,[],⟨kL,λ_=>rfl⟩,rfl,λ_ h=>by cases h⟩
section
variable {I:Nat->Value}{w:World}{Q:Exit->Act->World->Prop}{K:Act->World->Prop}{X:Nat->Prop}
theorem R.deferred(hR:R I w F μ P C){r:Nat}(h:w.heap[r]?=some (.deferred ds)):¬ zu C μ r:=by
 rintro ⟨id,o,m,ho,_,hm,rfl⟩;have:=hR.obj id o ho
 cases o with
 | arr size gen es ex fz row =>
   obtain⟨_,_,⟨_,_,M,_⟩,_⟩:=this m hm
   grind
 | mp es =>
   obtain⟨⟨_,_,M,_⟩,_⟩:=this m hm
   grind
 | lp a b c d e f =>
   obtain⟨⟨_,M,_⟩,_⟩:=this m hm
   grind
theorem Marks.bw{N:NB}{ds:Z Deferred}(h:Marks N w ds)(hR:R I w F μ P C)(hf:Fr w F μ C w' F' μ' a8):Marks N w' ds:=by
 obtain⟨hN,rs,M,O,h3⟩:=h;refine⟨aO hN hf.size,rs,M,O,λr hr=>⟨(h3 r hr).1,?_⟩⟩;have h4:=(h3 r hr).2
 have cC:r<w.heap.size:=by
  grind
 rw[hf.bw r cC (hR.deferred h4)];exact h4
def zga (I:Nat->Value) (P:Program) (rd:Bool) (sz:Nat) (c:Code) (T:PT V) (C:HS) (ex:Ex) (T':PT V) (a8:HS):Prop :=
 ∀ (N:NB) (X:Nat->Prop) (r:Y Nat) (w:World) (F:Nat->Prop) (μ:Nat->Nat->Y MI) (a:Act) (Q:Exit->Act->World->Prop),((rd=false->r=none)/\N.plain=false)->R I w F μ P C->Ol X μ C->pj X a8->kH I w F μ T a.tmps->sz<=a.tmps.size->Marks N w a.defers ->
   (∀ a' w' F' μ',R I w' F' μ' P a8->kH I w' F' μ' T' a'.tmps->a'.tmps.size=a.tmps.size->Marks N w' a'.defers->Fr w F μ C w' F' μ' a8->Q (zoB ex) a' w')->c.wpIn (Wr r) 0 P Q a w
def wh (P : Program) (f : FuncId) : Prop := ∃ fn, P.funcs[f]? = some fn /\ fn.body.isSome = true /\ fn.name ≠ "runtime.NumGoroutine"
structure RU(I:Nat->Value)(E:Env)(ev:Ev):Prop where
 code:∀ {rd sz c T C ex T' a8},ev.code rd sz c T C=some (ex,T',a8)->zga I E.P rd sz c T C ex T' a8
 call:∀ {f vs C v a8},ev.call f vs C=some (v,a8)->aT I E.P f vs C v a8
 body:∀ {f vs C r},ev.call f vs C=some r->wh E.P f
 kept:ry ev
structure bH(I:Nat->Value)(E:Env):Prop where
 ok:zvv I E
 kept:qf E
 body:∀ {f vs C r},E.dE f vs C=some r->wh E.P f
def zfv {E:Env}  (aq:bH I E) (cE:RU I E ev)   {r:V×HS} (h:FL E ev f vs C=some r):wh E.P f:=by
 unfold FL at h
 cases hq:E.dE f vs C with
 |some q=>exact aq.body hq
 | none =>
   rw[hq]at h;replace h:ET E ev f vs C=some r:=h;unfold ET at h
   cases hp:E.wx f with
   | zero =>
     rw[hp]at h;replace h:bi (cu vs) (rG ev f vs C) (ev.call f vs C)=some r:=h;rw[iO]at h;split at h
     . simp only[rG,aA]at h;obtain⟨_,h,_⟩:=h;exact cE.body h
     . exact cE.body h
   | succ m =>
     rw[hp]at h
     cases m with
     |zero=>exact cE.body (r:=r) h
     | succ m =>
      cases m with
      |succ m =>
       replace h:Al ev f vs C=some r:=h;simp only[Al,aA]at h;obtain⟨_,h,_⟩:=h;exact cE.body h
      |zero =>
       replace h:vP (ev.call f vs C) (λey=>nT ev f ey C) (lT C vs)=some r:=h
       cases cm:lT C vs with
       |none=>rw[cm]at h;exact cE.body (r:=r) h
       | some ey =>
         rw[cm]at h;replace h:nT ev f ey C=some r:=h;simp only[nT,aA]at h;obtain⟨_,h,_⟩:=h;exact cE.body h
def Fr.zlX(hf:Fr w F μ C w' F' μ' a8)(hR:R I w F μ P C){xs:Array Value}(h:kH I w F μ T xs):kH I w' F' μ' T xs:=by
 intro t v hv;obtain⟨x,hx,hr⟩:=h t v hv;exact⟨x,hx,hf.rep hR hr⟩
def zbt{sz:Nat}(hT:kH I w F μ T a.tmps)(b8:sz<=a.tmps.size)(hx:dV I w F μ v x)(h:Kj sz T d v=some T') :
 kH I w F μ T' (a.put d x).tmps/\(a.put d x).tmps.size=a.tmps.size/\(a.put d x).defers=a.defers:=by
 unfold Kj at h
 cases d with
 |none=>rw[AB]at h;cases h;exact⟨hT,rfl,rfl⟩
 | some d =>
   rw[lJ]at h;simp only[bE,gz]at h;obtain⟨cC,h⟩:=h;cases h;refine⟨λt u hu=>?_,by simp[Act.put],rfl⟩;rw[PT.cK]at hu;by_cases e:t=d
   . subst e;rw[if_pos rfl]at hu;cases hu;exact⟨x,by simp[Act.put,bY cC b8],hx⟩
   . rw[if_neg e]at hu;obtain⟨y,hy,hr⟩:=hT t u hu;exact⟨y,by simpa [Act.put,Array.getElem?_setIfInBounds,Ne.symm e]using hy,hr⟩
def Fe{ops:Array Oper}(hT:kH I w F μ T a.tmps)(h:xy ops.toList T o=some q):Region.wanted o (yielded ops a.tmps)=q:=by
 unfold xy at h;unfold Region.wanted
 cases hg:o.guard with
 |none=>rw[hg]at h;cases h;rfl
 | some g =>
   rw[hg,lJ]at h;obtain⟨j,want⟩:=g;simp only[aA,sI]at h;obtain⟨p,hp,d,hd,v,hv,h⟩:=h;obtain⟨x,hx,hr⟩:=hT d v hv;have s8:ops[j]?=some p:=by simpa using hp
   split at h
   . have e:=hr.uE;subst e;cases h;simp[yielded,s8,hd,hx,FN]
     try (cases want<;>rename_i b<;>cases b<;>rfl)
   . obtain⟨ys,rfl,_,_⟩:=hr.qx;cases h;simp[yielded,s8,hd,hx]
   . cases h
end
def L2(I:Nat->Value)(P:Program)(w:World)(F:Nat->Prop)(μ:Nat->Nat->Y MI)(C:HS)(v:V)(a8:HS)(K:Value->World->Prop):Prop :=
 ∀ x w' F' μ',R I w' F' μ' P a8->dV I w' F' μ' v x->Fr w F μ C w' F' μ' a8->K x w'
section
variable {I:Nat->Value}{w:World}{Q:Exit->Act->World->Prop}{K:Act->World->Prop}{X:Nat->Prop}
theorem MV(h:wh P f)(xs:Array Value)(w:World):(callFunc f xs).run P w=.ok (.enter f xs) w:=by
 obtain⟨fn,hf,hb,hn⟩:=h;have hb':fn.body≠none:=by cases h:fn.body<;>simp_all
 have hp:(Sem.program Sem.pure).run P w=.ok P w:=rfl;simp[callFunc,program,hp,hf,hn,hb']
def OX(hd:∀ c,o.op≠.defer c)(h:X7 I P w F μ C (execOp a.eval o) v a8)
 (hK:L2 I P w F μ C v a8 λx w'=>K (a.put o.dst x) w'):o.wpIn (Wr r) 0 P a w K Q:=by
 refine⟨λ_ _=>trivial,?_⟩;obtain⟨n,x,w',F',μ',M,O,h3,h4,h5⟩:=h;rw[Oper.semAt_eq _ _ _ hd,M];rcases O with rfl|⟨rfl,rfl⟩
 . exact hK x w' F' μ' h3 h4 h5
 . exact hK _ w' F' μ' h3 h4 h5
def zjk{xs:Array Value}(hd:∀ c,o.op≠.defer c)(he:(execOp a.eval o).run P w=.ok (.enter f xs) w)(hR:R I w F μ P C)(hD:Ol X μ C)(hO:pj X a8)
 (hA:Mq I w F μ vs xs) (hc:aT I P f vs C v a8) (hK:L2 I P w F μ C v a8 λx w'=>K (a.put o.dst x) w'):o.wpIn (Wr r) 0 P a w K Q:=by
 refine⟨λ_ _=>trivial,?_⟩;rw[Oper.semAt_eq _ _ _ hd,he,Oper.uponIn_enter];refine And.intro (λh=>(by cases h)) (Vh ((hc X w F μ xs hR hD hO hA).mono λe w' he=>?_))
 cases e with
 | returned x =>
   obtain⟨F',μ',M,O,h3⟩:=he;exact hK x w' F' μ' M O h3
 |panicked c=>exact he.elim
 |outgrown=>exact he.elim
theorem zh0 {sz:Nat}:∀ {ps:Z Nat} {vs:Z V} {T T':PT V} {tm:Array Value} {xs:Z Value},H8 sz ps vs T=some T'->xs.length=vs.length ->
 (∀ (i:Nat) (v:V),vs[i]?=some v->∃ x,xs[i]?=some x/\dV I w F μ v x)->kH I w F μ T tm->sz<=tm.size ->
 ps.length=vs.length/\kH I w F μ T' ((ps.zip xs).foldl (λtm p=>tm.setIfInBounds p.1 p.2) tm)/\((ps.zip xs).foldl (λtm p=>tm.setIfInBounds p.1 p.2) tm).size=tm.size:=by
 intro ps
 induction ps with
 | nil =>
   intro vs T T' tm xs h hl hx hT b8
   cases vs with
   |nil=>cases h;exact⟨rfl,hT,rfl⟩
   |cons _ _=>cases h
 | cons p ps ih =>
   intro vs T T' tm xs h hl hx hT b8
   cases vs with
   |nil=>cases h
   | cons v vs =>
     replace h:gd (Nat.blt p sz) (H8 sz ps vs (T.set p v))=some T':=h;simp only[bE,gz]at h
     cases xs with
     |nil=>simp at hl
     | cons x xs =>
       obtain⟨x',tj,hr⟩:=hx 0 v rfl;cases tj
       have j8:kH I w F μ (T.set p v) (tm.setIfInBounds p x):=by
        intro t u hu;rw[PT.cK]at hu;by_cases e:t=p
        . grind
        . rw[if_neg e]at hu;obtain⟨y,hy,hr⟩:=hT t u hu
          grind
       obtain⟨M,O,h3⟩:=ih (tm:=tm.setIfInBounds p x) (xs:=xs) h.2 (by simpa using hl) (λi u hi=>hx (i+1) u hi) j8 (by simpa using b8)
       simp_all
def gC{l:Nat}{r:Loop}(h:w.heap[l]?=some (.loop r)):(Instr.getLoop l).run P w=.ok r w:=by
 simp[Instr.getLoop,CV h (λ_ _ _ h=>by cases h)]
def ri{l:Nat}{r:Loop}(h:w.heap[l]?=some (.loop r))(C:r.state=.ready) :
 (Instr.beginRound l).run P w=.ok () { w with heap:=w.heap.setIfInBounds l (.loop { r with state:=.busy }) }:=by
 simp[Instr.beginRound,gC h,CU h (λ_ _ _ h=>by cases h),C]
def ju{l:Nat}{r:Loop}(jump:Y Code)(h:w.heap[l]?=some (.loop r)) :
 (Instr.endRound l jump).run P w=.ok (.bool jump.isNone) { w with heap:=w.heap.setIfInBounds l (.loop { r with state:=if jump.isNone then .ready else .done,pending:=jump }) }:=by
 simp[Instr.endRound,gC h,CU h (λ_ _ _ h=>by cases h)]
def C4{l:Nat}{r:Loop}{xs:Array Value}(h:w.heap[l]?=some (.loop r))(hn:xs.size=r.params.size) :
 (Instr.yield l xs).run P w=.ok (.round l r.fn ((r.params.zip xs).foldl (λtmps (t,a)=>tmps.setIfInBounds t a) r.tmps) r.assign r.body) w:=by
 simp[Instr.yield,gC h,hn]
theorem De(hR:R I w F μ P C){id:Nat}{m:MI}(hm:μ id 0=some m){fn:Nat}{as bd:Code}{b':Nat}(hg:C.H.get id=some (.lp fn T ps as bd b)){l:Loop}
 (hl:w.heap[m.b]?=some (.loop l)) {st:LoopState}  (eC:zK9 b' { l with state:=st,pending:=pd }) :
 R I { w with heap:=w.heap.setIfInBounds m.b (.loop { l with state:=st,pending:=pd }) } F μ P (C.wr id (.lp fn T ps as bd b')) /\
 Fr w F μ C { w with heap:=w.heap.setIfInBounds m.b (.loop { l with state:=st,pending:=pd }) } F μ (C.wr id (.lp fn T ps as bd b')):=by
 obtain⟨⟨l0,h0,M,h3,h4,h5,h6,h7⟩,u5⟩:=hR.obj id _ hg m hm;rw[hl]at h0;cases h0;have cC:m.b<w.heap.size:=hR.lt _ _ _ hm
 have hold:∀ c,c≠m.b->({ w with heap:=w.heap.setIfInBounds m.b (.loop { l with state:=st,pending:=pd }) }:World).heap[c]?=w.heap[c]?:=by
  grind
 refine hR.write (o':=.lp fn T ps as bd b') hg rfl hm rfl rfl (by simp) hold (λk=>Ey ..) ?_;intro m' eR
 have e:m'=m:=by
  grind
 subst e;refine⟨⟨{ l with state:=st,pending:=pd },by simp[cC],eC,h3,h4,h5,λt v hv=>?_,h7⟩,u5⟩;obtain⟨x,hx,hr⟩:=h6 t v hv;exact⟨x,hx,hr.mono I (λ_ h=>h) (λc hc=>hold c (λe=>u5 (e ▸ hc))) (λ_ _ _ h=>h)⟩
theorem Fk {o:Obj}:o.T8=some l↔o=.lp l.1 l.2.1 l.2.2.1 l.2.2.2.1 l.2.2.2.2.1 l.2.2.2.2.2:=by
 cases o with
 | lp a b c d e f =>
   grind [Obj.T8]
 |_=>simp[Obj.T8]
def zbX:Nr e=true↔e=.normal:=by cases e<;>simp[Nr]
theorem zmT{E:Env}(cE:RU I E ev)(hR:R I w F μ E.P C)(hD:Ol X μ C)(hO:pj X a8){id:Nat}{m:MI}{xs:Array Value}(hd:∀ c,o.op≠.defer c)
 (hm:μ id 0=some m) (hA:Mq I w F μ vs xs) (he:(execOp a.eval o).run E.P w=(Instr.yield m.b xs).run E.P w) (h:zA ev id vs C=some (v,a8))
 (hK:L2 I E.P w F μ C v a8 λx w'=>K (a.put o.dst x) w'):o.wpIn (Wr r) 0 E.P a w K Q:=by
 simp only[zA,aA,bE,beq_true,Fk,zbX]at h;obtain⟨_,ho,l,rfl,hb,T1,j8,⟨Rx,T2,cm⟩,u3,zJ8,_,ho1,l1,rfl,HN,⟨BM,T3,dt⟩,lR,_,xd,l2,rfl,h⟩:=h;cases h;dsimp only at *;subst zJ8;obtain⟨⟨lw,g0,g1,g3,g4,g5,g6,g7⟩,gF⟩:=hR.obj id _ ho m hm;obtain⟨z1,z2,z3⟩:=zh0 (xs:=xs.toList) (tm:=lw.tmps) j8 (by simpa using hA.1) (λi u hi=>by simpa using hA.2 i u hi) g6 g7
 have vF:(lw.params.zip xs).foldl (λtmps (t,a)=>tmps.setIfInBounds t a) lw.tmps=(l.2.2.1.zip xs.toList).foldl (λtm p=>tm.setIfInBounds p.1 p.2) lw.tmps:=by
  rw[<- g3,<- Array.foldl_toList,Array.toList_zip]
 have eV:xs.size=lw.params.size:=by
  rw[hA.1,<- z1,<- g3];simp
 refine⟨λ_ _=>trivial,?_⟩;rw[Oper.semAt_eq _ _ _ hd,he,C4 g0 eV,Oper.uponIn_round];refine⟨λh=>(by cases h),roundIn_of_wpIn trivial ?_⟩;rw[vF,g4,g5];have hO3:pj X dt:=(oM ..).off hO;have Nw:pj X cm:=((oM ..).trans (cE.kept.code lR)).off hO3;have k1:=cE.code u3;refine k1 ⟨0,[],false⟩ X (some m.b) w F μ _ _ ⟨λh=>(by cases h),rfl⟩ hR hD Nw z2 (by rw[z3];exact g7) (Marks.nil (aW _)) ?_;intro a1 w1 F1 μ1 F5 zKh eE _ rN;have eg:=rN.mm _ _ _ hm;obtain⟨⟨zJg,e0,e1,e3,e4,e5,e6,e7⟩,eF⟩:=F5.obj id _ ho1 m eg;rw[HN]at e1;have e2:zJg.pending=none:=e1.2;refine⟨_,ri e0 e1.1,?_⟩;have tP:=rN.cr (cE.kept.code u3).le hD;have eP:({ zJg with state:=LoopState.busy }:Loop)={ zJg with state:=.busy,pending:=none }:=by rw[<- e2]
 rw[eP];obtain⟨o4,vc⟩:=De F5 eg (b':=1) ho1 e0 (st:=.busy) (pd:=none) trivial;have Z2:=vc.cr (oM ..).le tP;have k2:=cE.code lR;refine k2 ⟨0,[],false⟩ X (some m.b) _ F1 μ1 a1 _ ⟨λh=>(by cases h),rfl⟩ o4 Z2 hO3 (vc.zlX F5 zKh) (by rw[eE,z3];exact g7) ?_ ?_
 . grind [Marks.bw]
 . intro a2 w3 F3 μ3 P1 hT3 zNP _ Pd;have CI:=Pd.mm _ _ _ eg;obtain⟨⟨lw3,f0,_⟩,_⟩:=P1.obj id _ xd m CI
   cases BM with
   | normal =>
     refine⟨_,_,ju none f0,?_⟩;obtain⟨P3,My⟩:=De P1 CI (b':=0) xd f0 (st:=.ready) (pd:=none) ⟨rfl,rfl⟩;exact hK _ _ F3 μ3 P3 (.pure (.bool true)) (((rN.trans vc).trans Pd).trans My)
   | ret =>
     refine⟨_,_,ju (some .ret) f0,?_⟩;obtain⟨P3,My⟩:=De P1 CI (b':=2) xd f0 (st:=.done) (pd:=some .ret) ⟨rfl,rfl⟩;exact hK _ _ F3 μ3 P3 (.pure (.bool false)) (((rN.trans vc).trans Pd).trans My)
   | exit i =>
     refine⟨_,_,ju (some (.exit i)) f0,?_⟩;obtain⟨P3,My⟩:=De P1 CI (b':=i+3) xd f0 (st:=.done) (pd:=some (.exit i)) ⟨rfl,rfl⟩;exact hK _ _ F3 μ3 P3 (.pure (.bool false)) (((rN.trans vc).trans Pd).trans My)
def QX{o:Op}(h:qE o=some c):o=.call c:=by
 cases o<;>first|(cases h;rfl)|cases h
theorem A6 (hρ:Good I) {E:Env}  (aq:bH I E) (cE:RU I E ev)  (hR:R I w F μ E.P C) (hD:Ol X μ C) (hO:pj X a8) (hT:kH I w F μ T a.tmps)   {id:Nat} 
 (hid:dR o.op≠0->H5 μ C id) (h:cp E ev dr T C id o=some (v,a8)) (hK:L2 I E.P w F μ C v a8 λx w'=>K (a.put o.dst x) w'):o.wpIn (Wr r) 0 E.P a w K Q:=by
 unfold cp at h
 cases hc:qE o.op with
 | none =>
   rw[hc]at h;replace h:TP E.P dr T C id (VI o.op)=some (v,a8):=h;refine OX (λc hd=>?_) (zng hρ hR hT hc hid h) hK;rw[hd]at h;cases h
 | some c =>
   have ho:=QX hc;have hd:∀ c,o.op≠.defer c:=λc' h'=>by rw[ho]at h';cases h'
   rw[hc]at h;replace h:wo E ev T C id c=some (v,a8):=h;simp only[wo,aA]at h;obtain⟨vs,fv,h⟩:=h;split at h
   . rename_i b hb
     obtain⟨cs,he⟩:∃ cs,execOp a.eval o=builtin b c.argTypes o.type cs (c.args.map a.eval) :=
      ⟨c.args.map λx=>match x with|.const _=>true|_=>false,by simp only[execOp,ho,resolve,hb,invoke];rfl⟩
     refine OX hd ?_ hK
     grind [zfw,dR]
   . rename_i x hx;simp only[aA]at h;obtain⟨u,hu,h⟩:=h;have hr:=dJ hT hu;have ef:=Vr hT fv;have hA:Mq I w F μ vs (c.args.map a.eval):=⟨by simpa using ef.1,ef.2⟩;unfold Lf at h;split at h
     . rename_i f Bt;obtain⟨ys,hy,hys,oY⟩:=hr.AP;have hf:=zfv aq cE h
       have he:(execOp a.eval o).run E.P w=.ok (.enter f (c.args.map a.eval++ys)) w:=by
        simp[execOp,ho,resolve,hx,Deferred.ofValue,hy,invoke,MV hf]
       refine zjk hd he hR hD hO ⟨?_,λi v hi=>?_⟩ (zoY aq.ok cE.call h) hK
       . grind [oo]
       . rw [oo]at hi;by_cases cC:i<vs.length
         . grind
         . rw[eQ (by omega)]at hi;have O:=oY _ v hi
           have Lq:i-vs.length<ys.size:=by
            grind
           refine⟨_,?_,O⟩
           simp_all [Array.getElem?_append_right,fe,bR]
     . rename_i l;obtain⟨m,hm,hy⟩:=hr.Mt;refine zmT cE hR hD hO hd hm hA ?_ h hK;simp[execOp,ho,resolve,hx,Deferred.ofValue,hy,invoke]
     . cases h
   . cases h
end
section
variable {I:Nat->Value}{w:World}{Q:Exit->Act->World->Prop}{X:Nat->Prop}{N:NB}
theorem zd5 (hρ:Good I) {E:Env}  (aq:bH I E) (cE:RU I E ev)  {sz:Nat} {ops:Array Oper} {rest:Z Nat}:∀ (l:Z Oper) {k id:Nat} {T T':PT V} {C a8:HS} {w:World} {F:Nat->Prop} {μ:Nat->Nat->Y MI} {a:Act},
 (ops.toList.drop k).take l.length=l->uO E ev sz ops.toList l id T C=some (T',a8)->(∀ j,id<=j->¬ X j)->R I w F μ E.P C->Ol X μ C->pj X a8->kH I w F μ T a.tmps->sz<=a.tmps.size->Marks N w a.defers ->
 (∀ a' w' F' μ',R I w' F' μ' E.P a8->kH I w' F' μ' T' a'.tmps->a'.tmps.size=a.tmps.size->Marks N w' a'.defers->Fr w F μ C w' F' μ' a8->wpOpsIn (Wr r) 0 E.P ops Q rest a' w')->wpOpsIn (Wr r) 0 E.P ops Q (List.range' k l.length++rest) a w:=by
 intro l
 induction l with
 | nil =>
   intro k id T T' C a8 w F μ a hk h hX hR hD hO hT b8 hM hQ;cases h;exact hQ a w F μ hR hT rfl hM (Fr.refl ..)
 | cons o l ih =>
   intro k id T T' C a8 w F μ a hk h hX hR hD hO hT b8 hM hQ;replace h:(W (vT E ev sz ops.toList o id T C) λr=>uO E ev sz ops.toList l (id+1) r.1 r.2)=some (T',a8):=h;simp only[aA]at h;obtain⟨⟨T1,cm⟩,hg,h⟩:=h
   have hko:ops[k]?=some o:=by
    have:((ops.toList.drop k).take (o::l).length)[0]?=some o:=by rw[hk];rfl
    grind
   have oX:(ops.toList.drop (k+1)).take l.length=l:=by
    have:((ops.toList.drop k).take (o::l).length).drop 1=l:=by rw[hk];rfl
    grind [List.drop_take,List.drop_drop,Nat.add_comm]
   have By:=QB aq.kept cE.kept hg;simp only[vT,aA]at hg;obtain⟨q,hq,hg⟩:=hg;have N6:=Fe hT hq;show wpOpsIn (Wr r) 0 E.P ops Q (k::(List.range' (k+1) l.length++rest)) a w;simp only[wpOpsIn,hko];rw[iO]at hg
   cases q with
   | true =>
     rw[if_pos rfl]at hg;rw[if_pos N6];simp only[bE,aA]at hg;obtain⟨hv,⟨v,dt⟩,eC,T2,mL,hg⟩:=hg;cases hg;refine A6 hρ aq cE hR hD ((M4 aq.kept cE.kept _ h).off hO) hT (λcb=>?_) eC ?_
     . rw[iO,if_neg (by rw[beq_true];exact cb)]at hv;exact hD.free (hX id (af _)) (aJ.1 hv)
     . intro x w1 F1 μ1 F5 hx hf;obtain⟨p1,p2,p3⟩:=zbt (hf.zlX hR hT) b8 hx mL;refine ih oX h (λj hj=>hX j (by omega)) F5 (hf.cr By.le hD) hO p1 (by rw[p2];exact b8) (by rw[p3];exact hM.bw hR hf) ?_;intro a' w2 F2 μ2 g1 g2 g3 g4 g5;exact hQ a' w2 F2 μ2 g1 g2 (by rw[g3,p2]) g4 (hf.trans g5)
   | false =>
     rw[if_neg (by simp)]at hg;rw[if_neg (by rw[N6];simp)];simp only[aA]at hg;obtain⟨T2,mL,hg⟩:=hg;cases hg;refine⟨λ_ _=>trivial,?_⟩;obtain⟨p1,p2,p3⟩:=zbt (v:=oD) (x:=undef) hT b8 (.pure (.tuple [] #[] rfl λi v hi=>by simp at hi)) mL
     grind
def ziY(hρ:Good I){E:Env}(aq:bH I E)(cE:RU I E ev){sz id:Nat}{ops:Array Oper}
 (h:uO E ev sz ops.toList ops.toList C.n T { H:=C.H,n:=C.n+dA ops.toList,log:=C.log }=some (T',a8)) (hR:R I w F μ E.P C) (hD:Ol X μ C) (hO:pj X a8) (hT:kH I w F μ T a.tmps) (b8:sz<=a.tmps.size) (hM:Marks N w a.defers)
 (hQ:∀ a' w' F' μ',R I w' F' μ' E.P a8->kH I w' F' μ' T' a'.tmps->a'.tmps.size=a.tmps.size->Marks N w' a'.defers->Fr w F μ C w' F' μ' a8->Q .normal a' w'):(Code.region id ops false).wpIn (Wr r) 0 E.P Q a w:=by
 refine wpIn_region ?_;rw[List.range_eq_range',<- jB,<- j5 (List.range' 0 ops.toList.length)];refine zd5 hρ aq cE ops.toList (by rw[sw,gN]) h hD.2 (hR.zFh _ _) (hD.zFh (fE _ _) _) hO hT b8 hM ?_;intro a' w' F' μ' g1 g2 g3 g4 g5;exact hQ a' w' F' μ' g1 g2 g3 g4 ((Fr.zFh w F μ C _ _).trans g5)
end
section
variable (I:Nat->Value)(w:World)(F:Nat->Prop)(μ:Nat->Nat->Y MI)(P:Program)(cL:Nat->Y Obj)
structure RG:Prop where
 lt:∀ id g m,μ id g=some m->m.b<w.heap.size
 Bj:∀ b,F b->b<w.heap.size
 obj:∀ id o,cL id=some o->o9 I w F μ P id o
 inj:∀ id jx o o' m m',cL id=some o->cL jx=some o'->μ id o.gen=some m->μ jx o'.gen=some m'->m.b=m'.b->id=jx
 y7:∀ id o,cL id=some o->∀ g,o.gen<g->μ id g=none
 gl:Gl I w F
end
def PV(cL:Nat->Y Obj)(μ:Nat->Nat->Y MI)(b:Nat):Prop:=∃ id o m,cL id=some o/\o.fz=false/\μ id o.gen=some m/\m.b=b
structure A1(w:World)(F:Nat->Prop)(μ:Nat->Nat->Option MI)(cL:Nat->Option Obj)(w':World)(F':Nat->Prop)(μ':Nat->Nat->Option MI)(G':Nat->Option Obj):Prop where
 io:Io w w'
 size:w.heap.size<=w'.heap.size
 bw:∀ b,b<w.heap.size->¬ PV cL μ b->w'.heap[b]?=w.heap[b]?
 fm:∀ b,F b->F' b
 Ci:∀ b,F' b->F b\/w.heap.size<=b\/PV cL μ b
 mm:∀ id g m,μ id g=some m->μ' id g=some m
 own:∀ b,PV G' μ' b->PV cL μ b\/w.heap.size<=b
 hm:∀ id,cL id≠none->G' id≠none
 sm:∀ id,G' id=none->∀ g,μ' id g=μ id g
 dm:∀ id,cL id≠none->(∀ g,μ id g=none)->∀ g,μ' id g=none
 mn:∀ id g m,μ' id g=some m->w.heap.size<=m.b\/∃ i j m0,μ i j=some m0/\m0.b=m.b
section
variable {I:Nat->Value}{w w'':World}{zFx:Nat->Prop}{μ'':Nat->Nat->Y MI}{zMG:Nat->Y Obj}
def R.zMS(h:R I w F μ P C):RG I w F μ P C.H.get:=⟨h.lt,h.Bj,h.obj,h.inj,h.y7,h.gl⟩
def RG.toR(h:RG I w F μ P cL)(eL:∀ id o,C.H.get id=some o->(∀ g,μ id g=none)\/cL id=some o):R I w F μ P C where
 lt:=h.lt
 Bj:=h.Bj
 gl:=h.gl
 obj id o ho:=by
  rcases eL id o ho with M|M
  . cases o<;>(intro m hm;rw[M]at hm;cases hm)
  . exact h.obj id o M
 inj id jx o o' m m' ho h1 hm eR:=by
  rcases eL id o ho with M|M
  . rw[M]at hm;cases hm
  . rcases eL jx o' h1 with O|O
    . rw[O]at eR;cases eR
    . exact h.inj id jx o o' m m' M O hm eR
 y7 id o ho g hg:=by
  rcases eL id o ho with M|M
  . exact M g
  . exact h.y7 id o M g hg
def A1.zIy(h:A1 w F μ C.H.get w' F' μ' a8.H.get):Fr w F μ C w' F' μ' a8:=⟨h.io,h.size,h.bw,h.fm,h.Ci,h.mm,h.own,h.hm,h.sm,h.dm,h.mn⟩
theorem A1.trans(h:A1 w F μ cL w' F' μ' G')(h':A1 w' F' μ' G' w'' zFx μ'' zMG):A1 w F μ cL w'' zFx μ'' zMG where
 io:=h.io.trans h'.io
 size:=aO h.size h'.size
 bw b hb hn:=by
  rw[h'.bw b (bY hb h.size) (λho=>(h.own b ho).elim hn (λqS=>by omega)),h.bw b hb hn]
 fm b hb:=h'.fm b (h.fm b hb)
 Ci b hb:=by
  rcases h'.Ci b hb with M|M|M
  . exact h.Ci b M
  . exact .inr (.inl (aO h.size M))
  . rcases h.own b M with O|O
    . exact .inr (.inr O)
    . exact .inr (.inl O)
 mm id g m hm:=h'.mm _ _ _ (h.mm _ _ _ hm)
 own b hb:=by
  rcases h'.own b hb with M|M
  . exact h.own b M
  . exact .inr (aO h.size M)
 hm id hi:=h'.hm id (h.hm id hi)
 sm id hi g:=by
  have cj:G' id=none:=aV λcb=>h'.hm id cb hi
  rw[h'.sm id hi g,h.sm id cj g]
 dm id hi hg:=h'.dm id (h.hm id hi) (h.dm id hi hg)
 mn id g m hg:=by
  rcases h'.mn id g m hg with M|⟨i,j,m0,M,O⟩
  . exact .inl (aO h.size M)
  . rcases h.mn i j m0 M with h3|⟨i',j',m1,h3,h4⟩
    . exact .inl (O ▸ h3)
    . exact .inr ⟨i',j',m1,h3,h4.trans O⟩
def RG.uR(h:RG I w F μ P cL)(hF:F b):¬ PV cL μ b:=by
 rintro ⟨id,o,m,ho,hf,hm,rfl⟩;have:=h.obj id o ho
 cases o with
 |arr size gen es exact fz row=>exact(this m hm).hn hf hF
 |mp es=>exact(this m hm).hn hF
 |lp fn T ps assign body busy=>exact(this m hm).hn hF
def A1.rep(h:A1 w F μ cL w' F' μ' G')(hR:RG I w F μ P cL)(hx:dV I w F μ v x):dV I w' F' μ' v x :=
 hx.mono I h.fm (λb hb=>h.bw b (hR.Bj b hb) (hR.uR hb)) h.mm
def o9.zKr{id:Nat}{o:Obj}(h:o9 I w F μ P id o)(hz:o.fz=true){m:MI}(hm:μ id o.gen=some m):F m.b:=by
 cases o with
 |arr size gen es exact fz row=>exact(h m hm).hf hz
 |mp es=>cases hz
 |lp fn T ps assign body busy=>cases hz
theorem RG.merge (h:RG I w F μ P cL) (eL:∀ id o,C.H.get id=some o->(∀ g,μ id g=none)\/cL id=some o) (tM:R I w' F' μ' P a8) (hf:Fr w F μ C w' F' μ' a8)
 (g1:∀ id o,G' id=some o->a8.H.get id=some o\/(cL id=some o/\a8.H.get id=none)) (g2:∀ id,cL id≠none->G' id≠none)
 (g3:∀ id,G' id=none->a8.H.get id=none\/(C.H.get id≠none/\∀ g,μ id g=none))
 (g4:(∀ id o,cL id=some o->a8.H.get id=none->o.fz=false)\/(∀ id o,a8.H.get id=some o->o.fz=false)\/(∀ id o,a8.H.get id=some o->∀ m,μ' id o.gen=some m->∃ o0,C.H.get id=some o0/\μ id o0.gen=some m))
 (g5:∀ id,C.H.get id=none->a8.H.get id≠none->cL id=none):RG I w' F' μ' P G'/\A1 w F μ cL w' F' μ' G':=by
 have hR:=h.toR eL
 have pN:∀ b,zu C μ b->PV cL μ b:=by
  rintro b ⟨id,o,m,ho,hz,hm,rfl⟩;rcases eL id o ho with M|M
  . rw[M]at hm;cases hm
  . exact⟨id,o,m,M,hz,hm,rfl⟩
 have fy:∀ id,a8.H.get id=none->C.H.get id=none:=λid hi=>aV λcb=>hf.hm id cb hi
 have lA:∀ id o m,cL id=some o->a8.H.get id=none->μ id o.gen=some m->¬ zu C μ m.b:=by
  rintro id o m ho hi hm ⟨zL4,o2,m2,O,_,jz,he⟩;rcases eL zL4 o2 O with h3|h3
  . rw[h3]at jz;cases jz
  . have e:=h.inj zL4 id o2 o m2 m h3 ho jz hm he;subst e;rw[fy _ hi]at O;cases O
 have zD5 : ∀ i j o o' m m',a8.H.get i=some o->cL j=some o'->a8.H.get j=none->μ' i o.gen=some m->μ j o'.gen=some m'->m.b≠m'.b:=by
  intro i j o o' m m' hi hj BE hm eR he;have cC:=h.lt _ _ _ eR;have kq:=lA j o' m' hj BE eR
  cases hz:o.fz with
  | false =>
    rcases hf.own m.b ⟨i,o,m,hi,hz,hm,rfl⟩with M|M
    . exact kq (he ▸ M)
    . omega
  | true =>
    have hF':F' m.b:=(tM.obj i o hi).zKr hz hm;rcases hf.Ci m.b hF' with M|M|M
    . rcases g4 with g4|g4|g4
      . exact h.uR M ⟨j,o',m',hj,g4 j o' hj BE,eR,he.symm⟩
      . rw[g4 i o hi]at hz;cases hz
      . obtain⟨o0,O,h3⟩:=g4 i o hi m hm;rcases eL i o0 O with h4|h4
        . rw[h4]at h3;cases h3
        . have:=h.inj i j o0 o' m m' h4 hj h3 eR he;subst this;rw[BE]at hi;cases hi
    . omega
    . exact kq (he ▸ M)
 refine⟨⟨tM.lt,tM.Bj,?_,?_,?_,tM.gl⟩,⟨hf.io,hf.size,λb hb hn=>hf.bw b hb (λho=>hn (pN b ho)),hf.fm,?_,hf.mm,?_,g2,?_,?_,hf.mn⟩⟩
 . intro id o ho;rcases g1 id o ho with M|⟨M,O⟩
   . exact tM.obj id o M
   . have hsm:=hf.sm id O;refine(h.obj id o M).mono hf.fm (λb hb=>hf.bw b (h.Bj b hb) (hR.uR hb)) hf.mm (λm hm=>by rw[hsm]at hm;exact hm) (λm hm=>hf.bw _ (h.lt _ _ _ hm) (lA id o m M O hm)) ?_;intro m hm _ hn hF';rcases hf.Ci _ hF' with h3|h3|h3
     . exact hn h3
     . have:=h.lt _ _ _ hm;omega
     . exact lA id o m M O hm h3
 . intro i j o o' m m' ho h1 hm eR he;rcases g1 i o ho with M|⟨M,O⟩
   . rcases g1 j o' h1 with h3|⟨h3,h4⟩
     . exact tM.inj i j o o' m m' M h3 hm eR he
     . rw[hf.sm j h4]at eR;exact absurd he (zD5 i j o o' m m' M h3 h4 hm eR)
   . rw[hf.sm i O]at hm;rcases g1 j o' h1 with h3|⟨h3,h4⟩
     . exact absurd he.symm (zD5 j i o' o m' m h3 M O eR hm)
     . rw[hf.sm j h4]at eR;exact h.inj i j o o' m m' M h3 hm eR he
 . intro id o ho g hg;rcases g1 id o ho with M|⟨M,O⟩
   . exact tM.y7 id o M g hg
   . rw[hf.sm id O];exact h.y7 id o M g hg
 . intro b hb;rcases hf.Ci b hb with M|M|M
   . exact .inl M
   . exact .inr (.inl M)
   . exact .inr (.inr (pN b M))
 . rintro b ⟨id,o,m,ho,hz,hm,rfl⟩;rcases g1 id o ho with M|⟨M,O⟩
   . rcases hf.own m.b ⟨id,o,m,M,hz,hm,rfl⟩with h3|h3
     . exact .inl (pN _ h3)
     . exact .inr h3
   . rw[hf.sm id O]at hm;exact .inl ⟨id,o,m,M,hz,hm,rfl⟩
 . intro id hi g;rcases g3 id hi with M|⟨M,O⟩
   . exact hf.sm id M g
   . rw[hf.dm id M O g,O g]
 . intro id hi hg g;by_cases M:a8.H.get id=none
   . rw[hf.sm id M g];exact hg g
   . by_cases O:C.H.get id=none
     . exact absurd (g5 id O M) hi
     . exact hf.dm id O hg g
end
def zui(m i:Nat):tb m i=m.testBit i:=by
 unfold tb;rw[Nat.testBit_eq_decide_div_mod_eq,dF];simp
theorem zCc{a c:Nat}:tb (Nat.lor (Nat.lor (2 ^ a) b) c) i=true↔i=a\/tb b i=true\/tb c i=true:=by
 have e:Nat.lor (Nat.lor (2 ^ a) b) c=(2 ^ a ||| b) ||| c:=rfl;rw[e];simp only[zui,Nat.testBit_or,Nat.testBit_two_pow,iJ,decide_eq_true_eq]
 grind
def zra(i:Nat):tb 0 i=false:=by rw[zui];simp
theorem Xz{acc:Z Nat}:∀ {l:Z Edge} {m:Nat},U0 i acc l=some m ->
 (∀ e∈l,Region.binds .any e=true->e.on<i)/\∀ j,tb m j=true->∃ e∈l,Region.binds .any e=true/\(j=e.on\/∃ b,acc[e.on]?=some b/\tb b j=true):=by
 intro l
 induction l with
 | nil =>
   intro m h;cases h;simp[zra]
 | cons e l ih =>
   intro m h;replace h:(W (U0 i acc l) λm=>bi (Region.binds .any e) (gd (Nat.blt e.on i) (W (vQ acc e.on) λb=>some (Nat.lor (Nat.lor (2 ^ e.on) b) m))) (some m))=some m:=h;simp only[aA]at h
   grind [iO,bE,aA,gz,sI,zCc,List.mem_cons_self,List.mem_cons_of_mem]
theorem ztv:∀ {l:Z Oper} {i:Nat} {acc bs:Z Nat},zyp l i acc=some bs->acc.length=i ->
 bs.length=i+l.length/\(∀ k,k<i->bs[k]?=acc[k]?)/\∀ (k:Nat) (o:Oper),l[k]?=some o->∃ m,bs[i+k]?=some m/\U0 (i+k) (bs.take (i+k)) o.after.toList=some m:=by
 intro l
 induction l with
 | nil =>
   intro i acc bs h hi;cases h
   grind
 | cons o l ih =>
   intro i acc bs h hi;replace h:(W (U0 i acc o.after.toList) λm=>zyp l (i+1) (jY acc [m]))=some bs:=h;simp only[aA]at h;obtain⟨m,hm,h⟩:=h;rw[oo]at h;obtain⟨M,O,h3⟩:=ih h (by simp[hi])
   have hold:∀ k,k<i->bs[k]?=acc[k]?:=λk hk=>by
    grind
   refine⟨by simp[M];omega,hold,λk o' hk=>?_⟩
   cases k with
   | zero =>
     cases hk;refine⟨m,?_,?_⟩
     . grind
     . have:bs.take (i+0)=acc:=by
        apply oK
        grind
       grind
   | succ k =>
     grind
theorem zkS{ops:Z Oper}:∀ {l:Z Oper} {i:Nat},Vv ops m y l i j=true->∀ (k:Nat) (x:Oper),l[k]?=some x->i+k<j->tb m (i+k)=true\/indep ops x y=true:=by
 intro l
 induction l with
 |nil=>intro i _ k x hk;simp at hk
 | cons z l ih =>
   intro i h k x hk cC;replace h:bi (Nat.blt i j) (et (bi (tb m i) true (indep ops z y)) (Vv ops m y l (i+1) j)) true=true:=h
   grind [iO,gz,dx]
theorem zc7 {ops:Z Oper}:∀ {l:Z Oper} {j:Nat} {bs:Z Nat},Vx ops l j bs=true->∀ (k:Nat) (y:Oper),l[k]?=some y->∃ m,bs[k]?=some m/\Vv ops m y ops 0 (j+k)=true:=by
 intro l
 induction l with
 |nil=>intro j bs _ k y hk;simp at hk
 | cons z l ih =>
   intro j bs h k y hk
   cases bs with
   |nil=>cases h
   | cons m bs =>
     replace h:et (Vv ops m z ops 0 j) (Vx ops l (j+1) bs)=true:=h;rw[dx]at h
     cases k with
     |zero=>cases hk;exact⟨m,rfl,h.1⟩
     | succ k =>
       grind
theorem zeu{l m:Z Nat}(h:meet l m=false):∀ k∈l,k ∉ m:=by
 induction l with
 |nil=>intro k hk;cases hk
 | cons x l ih =>
   intro k hk;replace h:bi (Kl x m) true (meet l m)=false:=h
   grind [iO,zg5]
theorem zkx{r:Z Nat×Z Nat}:∀ {l:Z (Z Nat×Z Nat)} {i:Nat},GK m r l i j=true->∀ (k:Nat) (q:Z Nat×Z Nat),l[k]?=some q->i+k<j ->
 tb m (i+k)=true\/((∀ t∈q.1,t ∉ r.2)/\(∀ t∈r.1,t ∉ q.2)):=by
 intro l
 induction l with
 |nil=>intro i _ k x hk;simp at hk
 | cons z l ih =>
   intro i h k x hk cC;replace h:bi (Nat.blt i j) (et (bi (tb m i) true (nt (bi (meet z.1 r.2) true (meet r.1 z.2)))) (GK m r l (i+1) j)) true=true:=h;rw[iO,if_pos (gz.2 (by omega)),dx,iO]at h
   cases k with
   | zero =>
     grind [jN,iO,zeu]
   | succ k =>
     grind
theorem zc6 {all:Z (Z Nat×Z Nat)}:∀ {l:Z (Z Nat×Z Nat)} {j:Nat} {bs:Z Nat},wG all l j bs=true->∀ (k:Nat) (r:Z Nat×Z Nat),l[k]?=some r->∃ m,bs[k]?=some m/\GK m r all 0 (j+k)=true:=by
 intro l
 induction l with
 |nil=>intro j bs _ k y hk;simp at hk
 | cons z l ih =>
   intro j bs h k y hk
   cases bs with
   |nil=>cases h
   | cons m bs =>
     replace h:et (GK m z all 0 j) (wG all l (j+1) bs)=true:=h;rw[dx]at h
     cases k with
     |zero=>cases hk;exact⟨m,rfl,h.1⟩
     | succ k =>
       grind
structure Tr(E:Env)(ev:Ev)(sz:Nat)(ops:List Oper)(wZ:Nat)(Ts:Nat->PT V)(b9:Nat->HS)(vs:Nat->V)(rs ws:Nat->List Nat)(B:Nat->Nat->Prop):Prop where
 step:∀ (i:Nat) (o:Oper),ops[i]?=some o->kR E ev ops o (wZ+i) (iA (Ts i) (looks ops o)) (b9 i)=some (vs i,b9 (i+1),rs i,ws i)
 put:∀ (i:Nat) (o:Oper),ops[i]?=some o->Kj sz (Ts i) o.dst (vs i)=some (Ts (i+1))
 on:∀ (j:Nat) (o:Oper),ops[j]?=some o->∀ e∈o.after.toList,Region.binds .any e=true->e.on<j
 zOo:∀ (j i:Nat) (o:Oper),ops[j]?=some o->B j i->∃ e∈o.after.toList,Region.binds .any e=true/\(i=e.on\/B e.on i)
 apart:∀ (i j:Nat) (x y:Oper),i<j->ops[i]?=some x->ops[j]?=some y->B j i\/indep ops x y=true
 fg:∀ i j,i<j->j<ops.length->B j i\/((∀ t∈rs i,t ∉ ws j)/\(∀ t∈rs j,t ∉ ws i))
def XL(x:α)(f:Nat->α):Nat->α
 | 0=>x
 |i+1=>f i
theorem VZ {E:Env}  {sz:Nat} {ops:Z Oper}:∀ {l:Z Oper} {id:Nat} {T:PT V} {C:HS} {acc:Z (Z Nat×Z Nat)} {r:(PT V×HS)×Z (Z Nat×Z Nat)},
 wL E ev sz ops l id T C acc=some r->∃ (Ts:Nat->PT V) (b9:Nat->HS) (vs:Nat->V) (rs ws:Nat->Z Nat),Ts 0=T/\b9 0=C /\
  (∀ (i:Nat) (o:Oper),l[i]?=some o->kR E ev ops o (id+i) (iA (Ts i) (looks ops o)) (b9 i)=some (vs i,b9 (i+1),rs i,ws i)) /\
  (∀ (i:Nat) (o:Oper),l[i]?=some o->Kj sz (Ts i) o.dst (vs i)=some (Ts (i+1)))/\r.1=(Ts l.length,b9 l.length)/\r.2=acc++(List.range l.length).map λi=>(rs i,ws i):=by
 intro l
 induction l with
 | nil =>
   intro id T C acc r h;cases h;exact⟨λ_=>T,λ_=>C,λ_=>oD,λ_=>[],λ_=>[],rfl,rfl,λi o hi=>by simp at hi,λi o hi=>by simp at hi,rfl,by simp⟩
 | cons o l ih =>
   intro id T C acc r h;replace h:(W (kR E ev ops o id (iA T (looks ops o)) C) λr=>W (Kj sz T o.dst r.1) λT'=>wL E ev sz ops l (id+1) T' r.2.1 (jY acc [r.2.2]))=some r:=h;simp only[aA]at h;obtain⟨⟨v,cm,rd,wr⟩,hq,T1,hp,h⟩:=h;rw[oo]at h;obtain⟨Ts,b9,vs,rs,ws,M,O,h3,h4,h5,h6⟩:=ih h;refine⟨XL T Ts,XL C b9,XL v vs,XL rd rs,XL wr ws,rfl,rfl,?_,?_,h5,?_⟩
   . intro i o' hi
     cases i with
     | zero =>
       cases hi;show kR E ev ops o (id+0) (iA T (looks ops o)) C=some (v,b9 0,rd,wr)
       grind
     | succ i =>
       have:=h3 i o' (by simpa using hi);rw[show id+1+i=id+(i+1) by omega]at this;exact this
   . intro i o' hi
     cases i with
     | zero =>
       cases hi;show Kj sz T o.dst v=some (Ts 0)
       grind
     |succ i=>exact h4 i o' (by simpa using hi)
   simp_all [gu,List.range_succ_eq_map,Function.comp_def,XL]
theorem zct{E:Env}{sz:Nat}{l:Z Oper}(h:QI E ev sz l T C=some (T',a8)) :
 ∃ (Ts:Nat->PT V) (b9:Nat->HS) (vs:Nat->V) (rs ws:Nat->Z Nat) (B:Nat->Nat->Prop),Tr E ev sz l C.n Ts b9 vs rs ws B/\Ts 0=T/\b9 0={ H:=C.H,n:=C.n+l.length,log:=C.log }/\Ts l.length=T'/\b9 l.length=a8:=by
 simp only[QI,U1,aA,bE]at h;obtain⟨bs,⟨bs',hb,B2,e⟩,r,hr,eb,h⟩:=h;cases e;obtain⟨Ts,b9,vs,rs,ws,M,O,h3,h4,h5,h6⟩:=VZ hr;obtain⟨k1,_,k3⟩:=ztv hb rfl;have e5:(T',a8)=(Ts l.length,b9 l.length):=by rw[<- h5];exact(bS h).symm
 cases e5;refine⟨Ts,b9,vs,rs,ws,λj i=>∃ m,bs[j]?=some m/\tb m i=true,⟨h3,h4,?_,?_,?_,?_⟩,M,by rw[O,dI],rfl,rfl⟩
 . grind [Xz]
 . rintro j i o ho ⟨m,hm,ht⟩;obtain⟨m',g1,g2⟩:=k3 j o ho;rw[gI]at g1 g2
   grind [Xz,id]
 . intro i j x y qu hx hy;obtain⟨m,g1,g2⟩:=zc7 B2 j y hy;rw[gI]at g2;have:=zkS g2 i x hx (by omega)
   grind
 . intro i j qu hj;rw[h6,iI]at eb;obtain⟨m,g1,g2⟩:=zc6 eb j (rs j,ws j) (by simp[hj]);rw[gI]at g2;have:=zkx g2 i (rs i,ws i) (by rw[bC,List.getElem?_range (by omega)];rfl) (by omega)
   grind
theorem TQ(o:Op):dR o=0\/dR o=1\/dR o=2:=by
 unfold dR
 grind
theorem Nv{d:Y Nat}{l:Z Nat}(h:zeU d l=false):∀ x,d=some x->x ∉ l:=by
 rintro x rfl hx;have:Kl x l=false:=h
 grind [zg5]
theorem Nt{ops:Z Oper}{x:Oper}(h:indep ops x y=true):(∀ d,x.dst=some d->d ∉ looks ops y)/\(∀ d,y.dst=some d->d ∉ looks ops x)/\(∀ d,x.dst=some d->y.dst≠some d)/\(dR x.op=2->dR y.op=2->lF x.op=true/\lF y.op=true):=by
 unfold indep at h;rw[dx,dx,dx,jN,jN,jN,jN]at h;obtain⟨M,O,h3,h4⟩:=h;refine⟨Nv M,Nv O,λd hd he=>?_,λe1 e2=>?_⟩
 . rw[hd,he]at h3;have:Nat.beq d d=false:=h3
   simp_all
 . unfold zH4 at h4;rw[e1,e2]at h4;replace h4:nt (et (lF x.op) (lF y.op))=false:=h4;cases hx:lF x.op<;>cases hy:lF y.op<;>rw[hx,hy]at h4<;>first|exact⟨rfl,rfl⟩|cases h4
section
variable {E:Env}{sz:Nat}{ops:Z Oper}{wZ:Nat}{Ts:Nat->PT V}{b9:Nat->HS}{vs:Nat->V}{rs ws:Nat->Z Nat}{B:Nat->Nat->Prop}
def Mk(ops:Z Oper)(Ts:Nat->PT V)(i:Nat):Prop:=∃ o,ops[i]?=some o/\dR o.op=1/\xy ops (iA (Ts i) (looks ops o)) o=some true
def W2(ops:Z Oper)(i:Nat):Prop:=∃ o,ops[i]?=some o/\dR o.op=2
def St(ops:Z Oper)(i:Nat):Prop:=∃ o,ops[i]?=some o/\lF o.op=true
theorem yz{id:Nat}{rd wr:Z Nat}(h:kR E ev ops o id T C=some (v,a8,rd,wr)) :
 (xy ops T o=some false/\v=oD/\a8=C/\rd=[]/\wr=[])\/(xy ops T o=some true /\
   ((dR o.op=0/\a8=C/\rd=cN T o.op/\wr=[]/\∃ O,cp E ev true T { H:=iA C.H (cN T o.op),n:=0,log:=[] } id o=some (v,O)) \/
    (dR o.op=1/\C.H.get id=none/\rd=[id]/\wr=[]/\∃ O o',cp E ev true T { H:=.leaf,n:=0,log:=[] } id o=some (v,O)/\O.H.get id=some o'/\o'.fz=false/\a8=C.put id o') \/
    (dR o.op=2/\lF o.op=false/\C.H.get id=none/\rd=[]/\∃ O,cp E ev true T { H:=C.H,n:=C.n,log:=[] } id o=some (v,O)/\a8={ H:=O.H,n:=O.n,log:=jY O.log C.log }/\wr=O.log) \/
    (dR o.op=2/\lF o.op=true/\rd=rX T C o.op/\∃ O,cp E ev true T { H:=iA C.H (rX T C o.op),n:=0,log:=[] } id o=some (v,O)/\a8={ H:=II C.H O.H (rX T C o.op),n:=C.n,log:=jY O.log C.log }/\wr=O.log))):=by
 simp only[kR,aA]at h;obtain⟨w,hw,h⟩:=h;rw[iO]at h
 cases w with
 | false =>
   grind
 | true =>
   rw[if_pos rfl]at h;refine .inr ⟨hw,?_⟩;unfold Aj at h;rw[iO]at h;split at h
   . rename_i eC;simp only[Pt,aA,bE,aJ]at h;obtain⟨_,⟨v1,O⟩,M,h⟩:=h;cases h;obtain⟨t,a,x,mc⟩:=Im eC;exact .inr (.inr (.inr ⟨by rw[mc];rfl,eC,rfl,O,M,rfl,rfl⟩))
   rename_i sq;have sq:lF o.op=false:=by simpa using sq
   unfold zX at h;rcases TQ o.op with hc|hc|hc
   . rw[hc]at h;replace h:(W (cp E ev true T { H:=iA C.H (cN T o.op),n:=0,log:=[] } id o) λr=>some (r.1,C,cN T o.op,[]))=some (v,a8,rd,wr):=h
     grind [aA]
   . rw[hc]at h;replace h:(gd (ig C id) (W (cp E ev true T { H:=.leaf,n:=0,log:=[] } id o) λr=>W (r.2.H.get id) λo'=>gd (nt o'.fz) (some (r.1,C.put id o',[id],[]))))=some (v,a8,rd,wr):=h
     grind [aA,bE,aJ,jN]
   . rw[hc]at h;replace h:(gd (ig C id) (W (cp E ev true T { H:=C.H,n:=C.n,log:=[] } id o) λr=>some (r.1,{ H:=r.2.H,n:=r.2.n,log:=jY r.2.log C.log },[],r.2.log)))=some (v,a8,rd,wr):=h;simp only[aA,bE,aJ]at h;obtain⟨hv,⟨v1,O⟩,M,h⟩:=h;cases h;exact .inr (.inr (.inl ⟨hc,sq,hv,rfl,O,M,rfl,rfl⟩))
variable (aq:qf E)(cE:ry ev)(tr:Tr E ev sz ops wZ Ts b9 vs rs ws B)
include aq cE tr
def Tr.kept(ho:ops[i]?=some o):Kept (b9 i) (b9 (i+1))/\∀ k o',(b9 i).H.get k=some o'->k ∉ ws i->(b9 (i+1)).H.get k=some o' :=
 KW aq cE (tr.step i o ho)
omit aq cE in
def Tr.same(hi:i<ops.length)(hw:¬ W2 ops i)(hk:Mk ops Ts i->k≠wZ+i):(b9 (i+1)).H.get k=(b9 i).H.get k:=by
 have ho:ops[i]?=some ops[i]:=ax hi;rcases yz (tr.step i _ ho)with⟨_,_,e,_⟩|⟨h0,⟨_,e,_⟩|⟨M,_,_,_,O,o',_,_,_,e⟩|⟨M,_⟩|⟨M,_⟩⟩
 . rw[e]
 . rw[e]
 . rw[e,ma,if_neg (hk ⟨_,ho,M,h0⟩)]
 . exact absurd ⟨_,ho,M⟩ hw
 . exact absurd ⟨_,ho,M⟩ hw
omit aq cE in
def Tr.made(hm:Mk ops Ts i):i<ops.length/\¬ W2 ops i/\(b9 i).H.get (wZ+i)=none/\(∃ o',(b9 (i+1)).H.get (wZ+i)=some o'/\o'.fz=false)/\rs i=[wZ+i]:=by
 obtain⟨o,ho,hc,hw⟩:=hm
 have hn:¬ W2 ops i:=by
  rintro ⟨o2,xd,O⟩;rw[ho]at xd;cases xd;rw[hc]at O;cases O
 rcases yz (tr.step i _ ho)with⟨h0,_⟩|⟨h0,⟨M,_⟩|⟨M,h3,h4,_,O,o',_,_,hz,e⟩|⟨M,_⟩|⟨M,_⟩⟩
 . rw[hw]at h0;cases h0
 . rw[hc]at M;cases M
 . exact⟨(aM.1 ho).1,hn,h3,⟨o',by rw[e,ma,if_pos rfl],hz⟩,h4⟩
 . exact absurd ⟨o,ho,M⟩ hn
 . exact absurd ⟨o,ho,M⟩ hn
theorem Tr.xA(qu:i<=j)(hj:j<=ops.length)(h:(b9 i).H.get k≠none):(b9 j).H.get k≠none:=by
 induction qu with
 |refl=>exact h
 | @step j qu ih =>
   replace qu:i<=j:=qu;exact(tr.kept aq cE (ax hj)).1.hm k (ih (by omega))
def Tr.zI(qu:i<=j)(hj:j<=ops.length)(h:(b9 j).H.get k=none):(b9 i).H.get k=none :=
 aV λcb=>tr.xA aq cE qu hj cb h
theorem Tr.zJh(hi:i<=ops.length):(b9 0).n<=(b9 i).n:=by
 induction i with
 |zero=>exact af _
 |succ i ih=>exact aO (ih (by omega)) (tr.kept aq cE (ax hi)).1.le
omit aq cE in
theorem Tr.zaD(FA:m<=k)(hk:k<=ops.length)(h:∀ i o,m<=i->i<k->ops[i]?=some o->o.dst≠some t):(Ts k).get t=(Ts m).get t:=by
 induction FA with
 |refl=>rfl
 | @step k FA ih =>
   replace FA:m<=k:=FA;rw[<- ih (by omega) λi o M O=>h i o M (by omega)];have ho:ops[k]?=some ops[k]:=ax hk;have hp:=tr.put k _ ho;have cb:=h k _ FA (by omega) ho;unfold Kj at hp
   cases hd:ops[k].dst with
   |none=>rw[hd,AB]at hp;rw[<- bS hp]
   | some d =>
     rw[hd,lJ]at hp;simp only[bE]at hp;rw[<- bS hp.2,PT.cK,if_neg]
     grind
omit aq cE in
theorem Tr.zq0(ho:ops[j]?=some o)(hd:o.dst=some t):(Ts (j+1)).get t=some (vs j)/\t<sz:=by
 have hp:=tr.put j o ho;unfold Kj at hp;rw[hd,lJ]at hp;simp only[bE,gz]at hp;rw[<- bS hp.2,PT.cK,if_pos rfl]
 grind
end
def PZ(b9:Nat->HS)(i id:Nat):Prop:=(b9 (i+1)).H.get id≠(b9 i).H.get id
open Classical in
def Gk(b9:Nat->HS)(S:Nat->Prop):Nat->Nat->Y Obj
 | 0,id=>(b9 0).H.get id
 |i+1,id=>if S i/\PZ b9 i id then (b9 (i+1)).H.get id else Gk b9 S i id
section
variable {b9:Nat->HS}{S':Nat->Prop}{id:Nat}
theorem zhX(h:∀ i,i<j->PZ b9 i id->S i):Gk b9 S j id=(b9 j).H.get id:=by
 induction j with
 |zero=>rfl
 | succ j ih =>
   unfold Gk;split
   . rfl
   . rename_i hn;rw[ih λi hi hc=>h i (by omega) hc];refine aV λcb=>hn ?_
     have hc:PZ b9 j id:=λe=>cb e.symm
     exact⟨h j (by omega) hc,hc⟩
theorem Eu(v7:j<=k)(h:∀ i,j<=i->i<k->PZ b9 i id->¬ S i):Gk b9 S k id=Gk b9 S j id:=by
 induction v7 with
 |refl=>rfl
 | @step k v7 ih =>
   replace v7:j<=k:=v7
   have e:Gk b9 S (k+1) id=Gk b9 S k id:=by
    rw[Gk,if_neg λhc=>h k v7 (by omega) hc.2 hc.1]
   rw[e];exact ih λi M O=>h i M (by omega)
def zpB(h:∀ i,i<k->PZ b9 i id->(S i↔S' i)):Gk b9 S k id=Gk b9 S' k id:=by
 induction k with
 |zero=>rfl
 | succ k ih =>
   unfold Gk;have:=ih λi hi=>h i (by omega)
   by_cases hc:PZ b9 k id
   . by_cases C:S k
     . rw[if_pos ⟨C,hc⟩,if_pos ⟨(h k (by omega) hc).1 C,hc⟩]
     . rw[if_neg λh=>C h.1,if_neg λh'=>C ((h k (by omega) hc).2 h'.1),this]
   . rw[if_neg λh=>hc h.2,if_neg λh=>hc h.2,this]
theorem zyL(v7:j<k)(hS:¬ S j)(h:PZ b9 j id->∀ i,j<i->i<k->S i->¬ PZ b9 i id)(hc:PZ b9 j id):Gk b9 (λi=>S i\/i=j) k id=(b9 (j+1)).H.get id:=by
 rw[Eu (j:=j+1) v7 λi M O h3 h4=>?_]
 . unfold Gk;rw[if_pos ⟨.inr rfl,hc⟩]
 . rcases h4 with h4|h4
   . exact h hc i (by omega) O h4 h3
   . omega
def Ew(hc:¬ PZ b9 j id):Gk b9 (λi=>S i\/i=j) k id=Gk b9 S k id:=by
 refine zpB λi _ hi=>⟨λh=>h.elim (λh=>h) λe=>absurd (e ▸ hi) hc,.inl⟩
end
theorem A1.cr{w:World}{X:Nat->Prop}(h:A1 w F μ cL w' F' μ' G')(hd:∀ id g,μ id g≠none->cL id≠none\/X id) :
 ∀ id g,μ' id g≠none->G' id≠none\/X id:=by
 intro id g hg;by_cases hn:G' id=none
 . rw[h.sm id hn g]at hg;rcases hd id g hg with M|M
   . exact absurd hn (h.hm id M)
   . exact .inr M
 . exact .inl hn
section
variable {E:Env}{sz:Nat}{ops:Z Oper}{wZ:Nat}{Ts:Nat->PT V}{b9:Nat->HS}{vs:Nat->V}{rs ws:Nat->Z Nat}{B:Nat->Nat->Prop}
variable (aq:qf E)(cE:ry ev)(tr:Tr E ev sz ops wZ Ts b9 vs rs ws B)
include aq cE tr
theorem Tr.uX{id:Nat}(ht:t<ops.length)(hc:PZ b9 t id):(Mk ops Ts t/\id=wZ+t)\/W2 ops t:=by
 by_cases hw:W2 ops t
 . exact .inr hw
 . left;refine aV λhn=>hc (tr.same ht hw λhm e=>hn ⟨hm,e⟩)
def Tr.Ka{id:Nat}(ht:t<ops.length)(hc:PZ b9 t id):(b9 t).H.get id=none\/id∈ws t:=by
 have ho:ops[t]?=some ops[t]:=ax ht
 cases hg:(b9 t).H.get id with
 |none=>exact .inl rfl
 | some o =>
   right;refine aV λhn=>hc ?_
   rw[hg];exact(tr.kept aq cE ho).2 id o hg hn
def Tr.Dw{id:Nat}(ht:t<ops.length)(hc:PZ b9 t id):(b9 (t+1)).H.get id≠none:=by
 intro hn;have ho:ops[t]?=some ops[t]:=ax ht;refine hc ?_;rw[hn];exact(aV λcb=>(tr.kept aq cE ho).1.hm id (λe=>cb e.symm) hn)
def Tr.zaY(C:St ops t){id:Nat}(hc:PZ b9 t id):(b9 t).H.get id≠none/\id∈rs t/\id∈ws t:=by
 obtain⟨o,ho,eC⟩:=C;have ht:=(aM.1 ho).1;have s7:=tr.step t o ho;obtain⟨ty,a,x,mc⟩:=Im eC
 have cb:(b9 t).H.get id≠none:=by
  intro hn;have M:=s7;unfold kR at M;simp only[aA]at M;obtain⟨w,_,M⟩:=M;rw[iO]at M;split at M
  . unfold Aj at M;rw[eC,iL]at M;have:=(QH aq cE eC M).2.2 id hn;exact hc (by rw[hn];exact this)
  . have e:b9 t=b9 (t+1):=congrArg (λq=>q.2.1) (bS M);exact hc (by rw[<- e])
 refine⟨cb,?_,(tr.Ka aq cE ht hc).resolve_left cb⟩;rcases yz s7 with⟨_,_,e,_⟩|⟨_,⟨M,_⟩|⟨M,_⟩|⟨_,M,_⟩|⟨_,_,M,O,_,h3,_⟩⟩
 . exact absurd (by rw[e]) hc
 . rw[mc]at M;cases M
 . rw[mc]at M;cases M
 . rw[eC]at M;cases M
 . refine aV λhn=>hc ?_
   rw[h3];show (II (b9 t).H O.H _).get id=_;rw[IG,if_neg λh=>hn (by rw[M];exact h.1)]
omit aq cE in
def Tr.ord(qu:i<j)(hi:W2 ops i)(hj:W2 ops j)(C:¬ (St ops i/\St ops j)):B j i:=by
 obtain⟨x,hx,hx2⟩:=hi;obtain⟨y,hy,Vc⟩:=hj;rcases tr.apart i j x y qu hx hy with h|h
 . exact h
 . have:=(Nt h).2.2.2 hx2 Vc;exact absurd ⟨⟨x,hx,this.1⟩,⟨y,hy,this.2⟩⟩ C
section
variable (hj:j<ops.length)(hS:¬ S j)(He:∀ i k,S k->B k i->S i)
include hj hS He
def Tr.zrS{id:Nat}(hc:PZ b9 j id):∀ t,j<t->t<ops.length->S t->¬ PZ b9 t id:=by
 intro t hjt ht HP lB;have ot:¬ B t j:=λh=>hS (He j t HP h)
 have od:(b9 t).H.get id≠none:=tr.xA aq cE (i:=j+1) hjt (dN ht) (tr.Dw aq cE hj hc);have eb:=(tr.fg j t hjt ht).resolve_left ot;have hws:=(tr.Ka aq cE ht lB).resolve_left od;rcases tr.uX aq cE ht lB with⟨hm,rfl⟩|hw
 . exact od (tr.made hm).2.2.1
 . rcases tr.uX aq cE hj hc with⟨hm,rfl⟩|zNI
   . exact eb.1 _ (by rw[(tr.made hm).2.2.2.2];simp) hws
   . by_cases eC:St ops j
     . exact eb.1 _ (tr.zaY aq cE eC hc).2.1 hws
     . exact ot (tr.ord hjt zNI hw λh=>eC h.1)
def Tr.done{id:Nat}(hc:PZ b9 j id):Gk b9 (λi=>S i\/i=j) ops.length id=(b9 (j+1)).H.get id :=
 zyL hj hS (λhc i M O h3=>tr.zrS aq cE hj hS He hc i M O h3) hc
theorem Tr.notYet(hm:Mk ops Ts i)(Hc:¬ S i):Gk b9 S ops.length (wZ+i)=none:=by
 have Lo:=tr.made hm;rw[Eu (j:=0) (aW _) λu _ hu zAc zEs=>?_]
 . exact tr.zI aq cE (aW i) (dN Lo.1) Lo.2.2.1
 . have zNO:u≠i:=λe=>Hc (e ▸ zEs)
   rcases nY zNO with h|h
   . exact tr.Dw aq cE hu zAc (tr.zI aq cE (i:=u+1) (j:=i) h (dN Lo.1) Lo.2.2.1)
   . obtain⟨o',h1,_⟩:=Lo.2.2.2.1;have od:(b9 u).H.get (wZ+i)≠none:=tr.xA aq cE (i:=i+1) h (dN hu) (by rw[h1];simp);have hws:=(tr.Ka aq cE hu zAc).resolve_left od;rcases tr.fg i u h hu with M|M
     . exact Hc (He i u zEs M)
     . exact M.1 _ (by rw[Lo.2.2.2.2];simp) hws
variable (hB:∀ i,B j i->S i)
include hB
theorem Tr.reads {id:Nat} {o o1:Obj} (hr:id∈rs j) (hg:(b9 j).H.get id=some o) (hG:Gk b9 S ops.length id=some o1):o1=o:=by
 have hA : ∀ t,t<j->PZ b9 t id->S t:=by
  intro t htj hc;refine aV λHP=>?_
  have ht:t<ops.length:=by omega
  have ot:¬ B j t:=λh=>HP (hB t h)
  have eb:=(tr.fg t j htj hj).resolve_left ot;have fy:(b9 t).H.get id=none:=(tr.Ka aq cE ht hc).resolve_right (eb.2 id hr);have zxi:=tr.Dw aq cE ht hc
  have : Gk b9 S ops.length id=none:=by
   rw[Eu (j:=0) (aW _) λu _ hu zAc zEs=>?_]
   . exact tr.zI aq cE (aW t) (dN ht) fy
   . have hut:u≠t:=λe=>HP (e ▸ zEs)
     rcases nY hut with h|h
     . exact tr.Dw aq cE hu zAc (tr.zI aq cE (i:=u+1) (j:=t) h (dN ht) fy)
     . have od:(b9 u).H.get id≠none:=tr.xA aq cE (i:=t+1) h (dN hu) zxi;have hws:=(tr.Ka aq cE hu zAc).resolve_left od;rcases tr.uX aq cE ht hc with⟨hm,rfl⟩|hw
       . rcases tr.fg t u h hu with M|M
         . grind
         . exact M.1 _ (by rw[(tr.made hm).2.2.2.2];simp) hws
       . by_cases eC:St ops t
         . exact(tr.zaY aq cE eC hc).1 fy
         . rcases tr.uX aq cE hu zAc with⟨hm,rfl⟩|zDU
           . exact od (tr.made hm).2.2.1
           . exact HP (He t u zEs (tr.ord h hw zDU λh=>eC h.1))
  grind
 have hZ:∀ t,j<=t->t<ops.length->PZ b9 t id->¬ S t:=by
  intro t M ht hc HP;have hjt:j≠t:=λe=>hS (e ▸ HP)
  have ot:¬ B t j:=λh=>hS (He j t HP h)
  have eb:=(tr.fg j t (by omega) ht).resolve_left ot;have od:(b9 t).H.get id≠none:=tr.xA aq cE (i:=j) M (dN ht) (by rw[hg];simp);exact eb.1 id hr ((tr.Ka aq cE ht hc).resolve_left od)
 rw[Eu (dN hj) hZ,zhX hA,hg]at hG
 grind
variable (hw:W2 ops j)(sq:¬ St ops j)
include hw sq
theorem Tr.before(ht:t<j)(h:W2 ops t):S t:=hB t (tr.ord ht h hw λh=>sq h.2)
theorem Tr.after(hjt:j<=t)(ht:t<ops.length)(h:W2 ops t):¬ S t:=by
 intro HP;by_cases e:j=t
 . grind
 . exact hS (He j t HP (tr.ord (by omega) hw h λh=>sq h.1))
theorem Tr.zyP{id:Nat}(h:∀ i,Mk ops Ts i->id≠wZ+i):Gk b9 S ops.length id=(b9 j).H.get id:=by
 rw[Eu (dN hj) λt M ht hc=>?_,zhX λt ht hc=>?_]
 . rcases tr.uX aq cE (by omega) hc with⟨hm,e⟩|Kf
   . grind
   . exact tr.before aq cE hj hS He hB hw sq ht Kf
 . rcases tr.uX aq cE ht hc with⟨hm,e⟩|Kf
   . grind
   . exact tr.after aq cE hj hS He hB hw sq M ht Kf
theorem Tr.zLa(_hm:Mk ops Ts i)(C:S i)(qu:i<j):Gk b9 S ops.length (wZ+i)=(b9 j).H.get (wZ+i):=by
 rw[Eu (dN hj) λt M ht hc=>?_,zhX λt ht hc=>?_]
 . rcases tr.uX aq cE (by omega) hc with⟨hm,e⟩|Kf
   . grind
   . exact tr.before aq cE hj hS He hB hw sq ht Kf
 . rcases tr.uX aq cE ht hc with⟨hm,e⟩|Kf
   . omega
   . exact tr.after aq cE hj hS He hB hw sq M ht Kf
theorem Tr.zLb(hm:Mk ops Ts i)(C:S i)(qu:j<=i):Gk b9 S ops.length (wZ+i)=(b9 (i+1)).H.get (wZ+i):=by
 have Lo:=tr.made hm;rw[Eu (j:=i+1) Lo.1 λt M ht hc=>?_]
 . unfold Gk;rw[if_pos];refine⟨C,?_⟩;obtain⟨o',h1,_⟩:=Lo.2.2.2.1;show _≠_
   grind
 . rcases tr.uX aq cE ht hc with⟨_,e⟩|Kf
   . omega
   . exact tr.after aq cE hj hS He hB hw sq (by omega) ht Kf
end
end
theorem I7(wZ:Nat)(cJ:Nat->Prop)(id:Nat):(∃ i,cJ i/\id=wZ+i)\/∀ i,cJ i->id≠wZ+i:=by
 grind
section
variable {I:Nat->Value}{w:World}
theorem zcK(hR:R I w F μ P C)(hT:kH I w F μ T a.tmps){id:Nat}{b:Builtin}(hb:b=.len\/b=.min\/b=.max){cs:Array Bool}{xs:Array Operand}
 (fv:ku T xs.toList=some vs) (h:qF P C id b ts.toList vs=some (v,a8)):X8 I P w F μ (builtin b ts tR cs (xs.map a.eval)) v:=by
 unfold qF at h;split at h
 . unfold IZ at h;simp only[aA,YV]at h;obtain⟨i,hi,x,rfl,n,hn,h⟩:=h;cases h;obtain⟨X,hX,hr⟩:=Jv hT fv;rw[hX]
   cases vy:ts.toList with
   |nil=>rw[vy]at hi;cases hi
   | cons t l =>
     rw[vy]at hi;have e:ts=(t::l).toArray:=by rw[<- vy]
     rw[e];exact(znM hR hi hr hn).next
 . grind
 . grind
 . unfold uT at h;simp only[aA,JL,V.fp]at h;obtain⟨p,rfl,q,M,r,O,h⟩:=h;cases h;obtain⟨X,kf,hX,hr,C⟩:=FQ hT fv;rw[M]at hr;rw[O]at C;rw[hX,hr.lG,C.lG];exact xJ.next (JV true ts tR)
 . unfold uT at h;simp only[aA,JL,V.fp]at h;obtain⟨p,rfl,q,M,r,O,h⟩:=h;cases h;obtain⟨X,kf,hX,hr,C⟩:=FQ hT fv;rw[M]at hr;rw[O]at C;rw[hX,hr.lG,C.lG];exact xJ.next (JV false ts tR)
 . cases h
theorem zmw (hρ:Good I) {E:Env}  (hR:R I w F μ E.P C)  (hT:kH I w F μ T a.tmps)   {id:Nat}  (hc:dR o.op=0)
 (h:cp E ev dr T C id o=some (v,a8)):(∀ c,o.op≠.defer c)/\X8 I E.P w F μ (execOp a.eval o) v:=by
 unfold cp at h
 cases ee:qE o.op with
 | none =>
   rw[ee]at h;replace h:TP E.P dr T C id (VI o.op)=some (v,a8):=h;exact⟨λc hd=>(by rw[hd]at h;cases h),(znk hρ hR hT hc ee h).2⟩
 | some c =>
   have ho:=QX ee;rw[ee]at h;replace h:wo E ev T C id c=some (v,a8):=h;simp only[wo,aA]at h;obtain⟨vs,fv,h⟩:=h;refine⟨λc' h'=>(by rw[ho]at h';cases h'),?_⟩;rw[ho]at hc
   cases M1:c.callee with
   | builtin b =>
     rw[M1]at h;replace h:qF E.P C id b c.argTypes.toList vs=some (v,a8):=h
     obtain⟨cs,he⟩:∃ cs,execOp a.eval o=builtin b c.argTypes o.type cs (c.args.map a.eval) :=
      ⟨c.args.map λx=>match x with|.const _=>true|_=>false,by simp only[execOp,ho,resolve,M1,invoke];rfl⟩
     grind [zcK,dR]
   |value x=>simp[dR,M1]at hc
   |invoke x n=>simp[dR,M1]at hc
def zmv(hρ:Good I){E:Env}(hR:R I w F μ E.P C)(hT:kH I w F μ T a.tmps){id:Nat}(hc:lF o.op=true)
 (h:cp E ev dr T C id o=some (v,a8)):(∀ c,o.op≠.defer c)/\v=oD/\∃ w' F',(execOp a.eval o).run E.P w=.ok .skip w'/\R I w' F' μ E.P a8/\Fr w F μ C w' F' μ a8:=by
 obtain⟨t,x,y,mc⟩:=Im hc;rw[Ar mc]at h;simp only[nz,aA]at h;obtain⟨i,hi,p,hp,u,hu,cm,M,h⟩:=h;cases h;obtain⟨w',F',O,h3,h4⟩:=zaZ hρ hR hi (dJ hT hp) (dJ hT hu) M;cases o;dsimp only at mc;subst mc;refine⟨λc hd=>(by cases hd),rfl,w',F',?_,h3,h4⟩;show (do Instr.storeAt t (a.eval x) (a.eval y);pure Next.skip:Sem Next).run E.P w=_;simp[O]
theorem zd9 {v':V}  (h:ng v C=some (v',a8))  {o:Obj} (hk:a8.H.get k=some o):∃ o0,C.H.get k=some o0/\o0.gen=o.gen:=by
 have hr:∀ (C:HS) (i k:Nat) (o:Obj),(iF C i).H.get k=some o->∃ o0,C.H.get k=some o0/\o0.gen=o.gen:=by
  intro C i k o hk;unfold iF at hk
  cases ho:C.H.get i with
  |none=>rw[ho,AB]at hk;exact⟨o,hk,rfl⟩
  | some q =>
    rw[ho,lJ]at hk
    cases q with
    | arr a b c d e f =>
      replace hk:(C.H.set i (.arr a b c d true f)).get k=some o:=hk;rw[PT.cK]at hk;split at hk
      . rename_i e;cases hk;subst e;exact⟨_,ho,rfl⟩
      grind
    |mp _=>exact⟨o,hk,rfl⟩
    |lp _ _ _ _ _ _=>exact⟨o,hk,rfl⟩
 have M:∀ (C:HS) (v:V) (k:Nat) (o:Obj),(nI C v).H.get k=some o->∃ o0,C.H.get k=some o0/\o0.gen=o.gen:=by
  intro C v k o hk;unfold nI at hk
  grind
 simp only[ng,aA]at h;obtain⟨u,_,h⟩:=h;cases h;generalize v.cells=l at hk
 induction l generalizing o with
 |nil=>exact⟨o,hk,rfl⟩
 | cons c l ih =>
   obtain⟨o1,O,h3⟩:=M _ _ _ _ hk;obtain⟨o0,h4,h5⟩:=ih O
   grind
theorem WJ{E:Env}{id:Nat}(hc:lF o.op=true)(h:cp E ev dr T C id o=some (v,a8)){q:Obj}(hk:a8.H.get k=some q):∃ o0,C.H.get k=some o0/\o0.gen=q.gen:=by
 have hr:∀ {i:TI} {id g off:Nat} {v:V} {C a8:HS} {q:Obj},qy i id g off v C=some a8->a8.H.get k=some q->∃ o0,C.H.get k=some o0/\o0.gen=q.gen:=by
  intro i id g off v C a8 q h hk;simp only[qy,aA,bE]at h;obtain⟨a,ha,_,_,e,he,h⟩:=h;cases h;replace hk:(C.H.set id (.arr a.1 g (VY a.2.1 (off / a.1) (kI e (off % a.1) v.cells)) a.2.2.1 false a.2.2.2.2)).get k=some q:=hk;rw[PT.cK]at hk;split at hk
  . rename_i e;cases hk;subst e;obtain⟨M,_⟩:=qO ha;exact⟨_,M,rfl⟩
  grind
 obtain⟨t,x,y,mc⟩:=Im hc;rw[Ar mc]at h;simp only[nz,aA]at h;obtain⟨i,_,p,_,u,_,M,O,h⟩:=h;cases h;unfold EA at O
 grind [iO,aA,zd9]
theorem zjd{e:TI}{len:Nat}:∀ {l:Z (Nat×Operand)} {C:HS} {es:Z (Z V)} {r:Z (Z V)×HS},zF true T e len l C es=some r->r.2=C:=by
 intro l
 induction l with
 |nil=>intro C es r h;cases h;rfl
 | cons p l ih =>
   intro C es r h;replace h:(W (bV T p.2) λv=>W (Dv true v C) λr=>gd (et (Nat.beq (dA r.1.cells) e.size) (Nat.blt p.1 len)) (zF true T e len l r.2 (VY es p.1 r.1.cells)))=some r:=h;simp only[aA,bE]at h;obtain⟨v,_,q,hq,_,h⟩:=h;replace hq:gd v.pure (some (v,C))=some q:=hq
   grind [bE]
def zni{o:Op}(hc:dR o=1)(ee:qE o=none){id:Nat}(h:TP P true T C id (VI o)=some (v,a8)):∃ o',∀ k,a8.H.get k=if k=id then some o' else C.H.get k:=by
 cases o<;>first|(cases hc;done)|(cases ee;done)|(cases h;done)|skip
 case alloc t =>
  replace h:Bv P C id t=some (v,a8):=h;simp only[Bv,aA,bE]at h;obtain⟨_,_,_,h⟩:=h;cases h;exact⟨_,λk=>ma ..⟩
 case box t x =>
  replace h:Wn T C id x=some (v,a8):=h;simp only[Wn,aA]at h;obtain⟨_,_,h⟩:=h;cases h;exact⟨_,λk=>ma ..⟩
 case buildSlice t n parts =>
  replace h:jT P true T C id t n parts=some (v,a8):=h;simp only[jT,aA,bE]at h;obtain⟨_,_,_,_,_,_,_,r,hr,h⟩:=h;cases h;rw[zjd hr];exact⟨_,λk=>ma ..⟩
 case makeMap t r =>
  replace h:AL C id r=some (v,a8):=h;simp only[AL,bE]at h;obtain⟨_,h⟩:=h;cases h;exact⟨_,λk=>ma ..⟩
 case makeSlice t l c =>
  replace h:mo P T C id t l c=some (v,a8):=h;simp only[mo,wY,aA,bE]at h;obtain⟨_,_,_,_,_,_,_,_,_,_,_,_,_,_,_,h⟩:=h
  first
   |(cases h;exact⟨_,λk=>ma ..⟩)
   |(obtain⟨_,h⟩:=h;cases h;exact⟨_,λk=>ma ..⟩)
   |(obtain⟨_,_,h⟩:=h;cases h;exact⟨_,λk=>ma ..⟩)
   |(obtain⟨_,_,_,h⟩:=h;cases h;exact⟨_,λk=>ma ..⟩)
theorem QT{o:Op}(hc:dR o=1):qE o=none:=by
 cases o<;>first|rfl|skip
 grind [dR]
end
section
variable {I:Nat->Value}{E:Env}{sz:Nat}{ops:Array Oper}{wZ:Nat}{Ts:Nat->PT V}{b9:Nat->HS}{vs:Nat->V}{rs ws:Nat->Z Nat}{B:Nat->Nat->Prop}{X:Nat->Prop}{N:NB}
 {w0:World} {F0:Nat->Prop} {μ0:Nat->Nat->Y MI} {G0:Nat->Y Obj} {zj:Nat}
variable (I E ops Ts b9 B X N w0 F0 μ0 G0 zj) in
structure Inv(S:Nat->Prop)(a:Act)(w:World)(F:Nat->Prop)(μ:Nat->Nat->Option MI):Prop where
 down:∀ i k,S k->B k i->S i
 rg:RG I w F μ E.P (Gk b9 S ops.toList.length)
 fr:A1 w0 F0 μ0 G0 w F μ (Gk b9 S ops.toList.length)
 cr:∀ id g,μ id g≠none->Gk b9 S ops.toList.length id≠none\/X id
 tmp:∀ t k v,k<=ops.toList.length->(∀ i o,i<k->ops.toList[i]?=some o->o.dst=some t->S i)->(∀ i o,k<=i->ops.toList[i]?=some o->o.dst=some t->¬ S i) ->
  (Ts k).get t=some v->∃ x,a.tmps[t]?=some x/\dV I w F μ v x
 size:a.tmps.size=zj
 marks:Marks N w a.defers
def Inv.zv1(tr:Tr E ev sz ops.toList wZ Ts b9 vs rs ws B){w:World}(inv:Inv I E ops Ts b9 B X N w0 F0 μ0 G0 zj S a w F μ)
   (ho:ops.toList[j]?=some o) (hS:¬ S j) (hB:∀ i,B j i->S i):kH I w F μ (iA (Ts j) (looks ops.toList o)) a.tmps:=by
 intro t v hv;obtain⟨ht,hv⟩:=LA hv;refine inv.tmp t j v (dN (aM.1 ho).1) (λi x hi hx hd=>?_) (λi x hi hx hd Hc=>?_) hv
 . rcases tr.apart i j x o hi hx ho with h|h
   . exact hB i h
   . exact absurd ht ((Nt h).1 t hd)
 . have cb:i≠j:=λe=>hS (e ▸ Hc)
   rcases tr.apart j i o x (by omega) ho hx with h|h
   . exact hS (inv.down j i Hc h)
   . exact(Nt h).2.1 t hd ht
def MJ (tr:Tr E ev sz ops.toList wZ Ts b9 vs rs ws B)   {w:World}   (inv:Inv I E ops Ts b9 B X N w0 F0 μ0 G0 zj S a w F μ) (b8:sz<=zj)
 (kd:∀ v x,dV I w F μ v x->dV I w' F' μ' v x)   (ho:ops.toList[j]?=some o) (hS:¬ S j) (hB:∀ i,B j i->S i)  (hx:dV I w' F' μ' (vs j) x) :
 ∀ t k v,k<=ops.toList.length->(∀ i o,i<k->ops.toList[i]?=some o->o.dst=some t->S i\/i=j)->(∀ i o,k<=i->ops.toList[i]?=some o->o.dst=some t->¬ (S i\/i=j)) ->
 (Ts k).get t=some v->∃ y,(a.put o.dst x).tmps[t]?=some y/\dV I w' F' μ' v y:=by
 intro t k v hk M O hv;by_cases hd:o.dst=some t
 . have v7:j<k:=jK λhle=>O j o hle ho hd (.inr rfl)
   have gO:=tr.zaD (m:=j+1) v7 hk (t:=t) (λi y hi W5 hy hdy=>by
    rcases tr.apart j i o y (by omega) ho hy with h|h
    . rcases M i y W5 hy hdy with h3|h3
      . exact hS (inv.down j i h3 h)
      . omega
    . exact(Nt h).2.2.1 t hd hdy)
   obtain⟨bc,cC⟩:=tr.zq0 ho hd;rw[gO,bc]at hv;cases hv;refine⟨x,?_,hx⟩;rw[hd];have:t<a.tmps.size:=bY cC (aO b8 (Nat.le_of_eq inv.size.symm));simp[Act.put,this]
 . obtain⟨y,hy,hr⟩:=inv.tmp t k v hk (λi x' hi tj xT=>(M i x' hi tj xT).resolve_right (λe=>hd (by subst e;rw[ho]at tj;cases tj;exact xT)))
    (λi x' hi tj xT h3=>O i x' hi tj xT (.inl h3)) hv
   refine⟨y,?_,kd _ _ hr⟩
   cases ld:o.dst with
   |none=>exact hy
   | some d =>
     have cb:d≠t:=λe=>hd (by rw[ld,e])
     simpa [Act.put,Array.getElem?_setIfInBounds,cb]using hy
theorem Inv.step (hρ:Good I) (aq:bH I E) (cE:RU I E ev) (tr:Tr E ev sz ops.toList wZ Ts b9 vs rs ws B) (hX:∀ i,wZ<=i->¬ X i) (hn:wZ+ops.toList.length<=(b9 0).n) (hO:pj X (b9 ops.toList.length)) (b8:sz<=zj)
 {r:Y Nat} {S:Nat->Prop} {a:Act} {w:World} {F:Nat->Prop} {μ:Nat->Nat->Y MI} (inv:Inv I E ops Ts b9 B X N w0 F0 μ0 G0 zj S a w F μ)
 {j:Nat} (hj:j<ops.toList.length) (hS:¬ S j) (hB:∀ i,B j i->S i) {K:Act->World->Prop} {Q:Exit->Act->World->Prop}
 (hK:∀ a' w' F' μ',Inv I E ops Ts b9 B X N w0 F0 μ0 G0 zj (λi=>S i\/i=j) a' w' F' μ'->K a' w'):wpOpIn (Wr r) 0 E.P ops Q j K a w:=by
 have tG:qf E:=aq.kept;have Zq:=cE.kept;have ho:ops.toList[j]?=some ops.toList[j]:=ax hj;generalize ops.toList[j]=o at ho;have h1:ops[j]?=some o:=by simpa using ho
 have hT:=inv.zv1 tr ho hS hB
 have UD:∀ i k,(S k\/k=j)->B k i->(S i\/i=j):=by
  rintro i k (h|rfl) hb
  . exact .inl (inv.down i k h hb)
  . exact .inl (hB i hb)
 have mL:∀ x,(a.put o.dst x).tmps.size=zj/\(a.put o.dst x).defers=a.defers:=by
  intro x;rw[<- inv.size];cases o.dst<;>simp[Act.put]
 have tc:∀ {id:Nat},PZ b9 j id->Gk b9 (λi=>S i\/i=j) ops.toList.length id=(b9 (j+1)).H.get id:=λhc=>tr.done tG Zq hj hS inv.down hc
 unfold wpOpIn;rw[h1];dsimp only
 have hrd:∀ {kf:Z Nat} {n:Nat} {l:Z Nat},(∀ id∈kf,id∈rs j)->∀ (id:Nat) (o1:Obj),({ H:=iA (b9 j).H kf,n:=n,log:=l }:HS).H.get id=some o1->(∀ g,μ id g=none)\/Gk b9 S ops.toList.length id=some o1:=by
  intro kf n l hY id o1 h3;obtain⟨h4,h5⟩:=LA h3;by_cases HI:∀ g,μ id g=none
  . exact .inl HI
  . right
    have hG:Gk b9 S ops.toList.length id≠none:=by
     obtain⟨g,hg⟩:=Classical.not_forall.1 HI;refine(inv.cr id g hg).resolve_right λhx=>?_
     have:=tr.xA tG Zq (i:=j) (j:=ops.toList.length) (by omega) (af _) (k:=id) (by rw[h5];simp);exact this (hO id hx)
    cases zMm:Gk b9 S ops.toList.length id with
    |none=>exact absurd zMm hG
    |some o2=>rw[tr.reads tG Zq hj hS inv.down hB (hY id h4) h5 zMm]
 have gO:(b9 (j+1)=b9 j)->Gk b9 S ops.toList.length=Gk b9 (λi=>S i\/i=j) ops.toList.length:=by
  intro e
  funext id
  exact(Ew λhc=>hc (by rw[e])).symm
 rcases yz (tr.step j o ho)with⟨hw,hv,hh,_,_⟩|⟨hw,h0|M|O|h3⟩
 . -- it is not run
   rw[if_neg (by rw[Fe hT hw];simp)];refine⟨λ_ _=>trivial,?_⟩;have hx:dV I w F μ (vs j) undef:=by rw[hv];exact .pure (.tuple [] #[] rfl λi v hi=>by simp at hi)
   have e:=gO hh;exact hK _ w F μ ⟨UD,e ▸ inv.rg,e ▸ inv.fr,e ▸ inv.cr,MJ tr inv b8 (λ_ _ h=>h) ho hS hB hx,(mL _).1,by rw[(mL _).2];exact inv.marks⟩
 . -- it reads alone
   obtain⟨hc,hh,At,_,O,eC⟩:=h0;rw[if_pos (Fe hT hw)];have hR:R I w F μ E.P { H:=iA (b9 j).H (cN (iA (Ts j) (looks ops.toList o)) o.op),n:=0,log:=[] }:=inv.rg.toR (hrd λid h=>by rw[At];exact h);obtain⟨hd,x,z9,hx2⟩:=zmw hρ hR hT hc eC;refine⟨λ_ _=>trivial,?_⟩;rw[Oper.semAt_eq _ _ _ hd,z9];have e:=gO hh;exact hK _ w F μ ⟨UD,e ▸ inv.rg,e ▸ inv.fr,e ▸ inv.cr,MJ tr inv b8 (λ_ _ h=>h) ho hS hB hx2,(mL _).1,by rw[(mL _).2];exact inv.marks⟩
 . -- it makes an object
   obtain⟨hc,fy,At,_,O,o',eC,de,hz,hh⟩:=M;rw[if_pos (Fe hT hw)];have ee:=QT hc;have FA:Mk ops.toList Ts j:=⟨o,ho,hc,hw⟩
   have hst':TP E.P true (iA (Ts j) (looks ops.toList o)) { H:=.leaf,n:=0,log:=[] } (wZ+j) (VI o.op)=some (vs j,O):=by
    unfold cp at eC;rw[ee]at eC;exact eC
   obtain⟨o2,zu1⟩:=zni hc ee hst';have e2:o2=o':=by rw[zu1,if_pos rfl]at de;exact bS de
   subst e2;have K2:∀ k,k≠wZ+j->O.H.get k=none:=λk hk=>by rw[zu1,if_neg hk];rfl
   have hG0:Gk b9 S ops.toList.length (wZ+j)=none:=tr.notYet tG Zq hj hS inv.down FA hS;have Qw:∀ (id:Nat) (o:Obj),({ H:=.leaf,n:=0,log:=[] }:HS).H.get id=some o->(∀ g,μ id g=none)\/Gk b9 S ops.toList.length id=some o:=λid o h=>by cases h
   have hR:R I w F μ E.P { H:=.leaf,n:=0,log:=[] }:=inv.rg.toR Qw;have lA:H5 μ { H:=.leaf,n:=0,log:=[] } (wZ+j):=⟨rfl,λg=>aV λcb=>(inv.cr _ g cb).elim (λh=>h hG0) (hX _ (by omega))⟩;refine OX (C:={ H:=.leaf,n:=0,log:=[] }) (λc hd=>by rw[hd]at hc;cases hc) (zng hρ hR hT ee (λ_=>lA) hst') ?_;intro x w' F' μ' tM hx hf;have bc:(b9 (j+1)).H.get (wZ+j)=some o2:=by rw[hh,ma,if_pos rfl]
   have hG1:Gk b9 (λi=>S i\/i=j) ops.toList.length (wZ+j)=some o2:=by
    rw[tc (by show _≠_;rw[bc,fy];simp)];exact bc
   have hG2:∀ id,id≠wZ+j->Gk b9 (λi=>S i\/i=j) ops.toList.length id=Gk b9 S ops.toList.length id:=λid cb=>Ew λhc=>hc (by rw[hh,ma,if_neg cb])
   obtain⟨k1,k2⟩:=inv.rg.merge (G':=Gk b9 (λi=>S i\/i=j) ops.toList.length) Qw tM hf
    (λid o1 h=>by
      by_cases e:id=wZ+j
      . subst e;rw[hG1]at h;cases h;exact .inl de
      . rw[hG2 id e]at h;exact .inr ⟨h,K2 id e⟩)
    (λid h=>by
      by_cases e:id=wZ+j
      . subst e;rw[hG1];simp
      . rw[hG2 id e];exact h)
    (λid h=>by
      by_cases e:id=wZ+j
      . subst e;rw[hG1]at h;cases h
      . exact .inl (K2 id e))
    (.inr (.inl λid o1 h=>by
      by_cases e:id=wZ+j
      . subst e;rw[de]at h;cases h;exact hz
      . rw[K2 id e]at h;cases h))
    (λid _ h=>by
      by_cases e:id=wZ+j
      . subst e;exact hG0
      . exact absurd (K2 id e) h)
   exact hK _ w' F' μ' ⟨UD,k1,inv.fr.trans k2,k2.cr inv.cr,MJ tr inv b8 (λ_ _ h=>k2.rep inv.rg h) ho hS hB hx,(mL _).1,
    by rw[(mL _).2];exact inv.marks.bw hR hf⟩
 . -- it may write
   obtain⟨hc,zJU,fy,At,O,eC,hh,_⟩:=O;rw[if_pos (Fe hT hw)];have cy:W2 ops.toList j:=⟨o,ho,hc⟩;have sq:¬ St ops.toList j:=by rintro ⟨o2,xd,h3⟩;rw[ho]at xd;cases xd;rw[zJU]at h3;cases h3
   have u4:¬ Mk ops.toList Ts j:=by rintro ⟨o2,xd,h3,_⟩;rw[ho]at xd;cases xd;rw[hc]at h3;cases h3
   have rg:=inv.rg;have fr:=inv.fr;have cr:=inv.cr;have e2:(b9 (j+1)).H=O.H:=by rw[hh]
   have zb6:∀ {id:Nat},(∀ i,Mk ops.toList Ts i->id≠wZ+i)->Gk b9 S ops.toList.length id=(b9 j).H.get id:=λh=>tr.zyP tG Zq hj hS inv.down hB cy sq h
   have cC:∀ {i:Nat},Mk ops.toList Ts i->S i->i<j->Gk b9 S ops.toList.length (wZ+i)=(b9 j).H.get (wZ+i):=λM O h3=>tr.zLa tG Zq hj hS inv.down hB cy sq M O h3
   have qS:∀ {i:Nat},Mk ops.toList Ts i->S i->j<=i->Gk b9 S ops.toList.length (wZ+i)=(b9 (i+1)).H.get (wZ+i):=λM O h3=>tr.zLb tG Zq hj hS inv.down hB cy sq M O h3
   have Fo:∀ {i:Nat},Mk ops.toList Ts i->¬ S i->Gk b9 S ops.toList.length (wZ+i)=none:=λM O=>tr.notYet tG Zq hj hS inv.down M O
   have zEa:∀ i,Mk ops.toList Ts i->j<=i->(b9 j).H.get (wZ+i)=none:=λi hm hle=>tr.zI tG Zq hle (by have:=(tr.made hm).1;omega) (tr.made hm).2.2.1
   have zeK:∀ i,Mk ops.toList Ts i->j<=i->O.H.get (wZ+i)=none:=λi hm hle=>by
    have cb:i≠j:=λe=>u4 (e ▸ hm)
    rw[<- e2];exact tr.zI tG Zq (i:=j+1) (j:=i) (by omega) (by have:=(tr.made hm).1;omega) (tr.made hm).2.2.1
   have kd:∀ k,(b9 j).H.get k≠none->O.H.get k≠none:=λk hk=>by rw[<- e2];exact(tr.kept tG Zq ho).1.hm k hk
   have zoj:∀ i,Mk ops.toList Ts i->i<j->(b9 j).H.get (wZ+i)≠none:=λi hm cC=>by
    obtain⟨o1,h3,_⟩:=(tr.made hm).2.2.2.1;exact tr.xA tG Zq (i:=i+1) (j:=j) cC (dN hj) (by rw[h3];simp)
   have zoh:∀ i,Mk ops.toList Ts i->¬ S i->∀ g,μ (wZ+i) g=none:=λi hm C g=>aV λcb=>by
    rcases cr _ g cb with h3|h3
    . exact h3 (Fo hm C)
    . exact hX _ (by omega) h3
   have eL:∀ (id:Nat) (o1:Obj),({ H:=(b9 j).H,n:=(b9 j).n,log:=[] }:HS).H.get id=some o1->(∀ g,μ id g=none)\/Gk b9 S ops.toList.length id=some o1:=by
    intro id o1 h;rcases I7 wZ (Mk ops.toList Ts) id with⟨i,hm,rfl⟩|lb
    . by_cases C:S i
      . by_cases M:i<j
        . right;rw[cC hm C M];exact h
        . have:=zEa i hm (by omega);rw[this]at h;cases h
      . exact .inl (zoh i hm C)
    . right;rw[zb6 lb];exact h
   have hR:R I w F μ E.P { H:=(b9 j).H,n:=(b9 j).n,log:=[] }:=rg.toR eL;have hnj:wZ+ops.toList.length<=(b9 j).n:=aO hn (tr.zJh tG Zq (dN hj))
   have hD:Ol (λid=>X id\/∃ i,Mk ops.toList Ts i/\j<=i/\id=wZ+i) μ { H:=(b9 j).H,n:=(b9 j).n,log:=[] }:=by
    refine⟨λid g hg=>?_,?_⟩
    . grind
    . rintro id hid (h3|⟨i,hm,_,rfl⟩)
      . grind
      . have:=(tr.made hm).1
        grind
   have ZS:pj (λid=>X id\/∃ i,Mk ops.toList Ts i/\j<=i/\id=wZ+i) O:=by
    rintro id (h3|⟨i,hm,hle,rfl⟩)
    . rw[<- e2];exact tr.zI tG Zq (i:=j+1) (j:=ops.toList.length) hj (af _) (hO id h3)
    grind
   have hG0:Gk b9 S ops.toList.length (wZ+j)=none:=by
    grind
   have lA:H5 μ { H:=(b9 j).H,n:=(b9 j).n,log:=[] } (wZ+j):=⟨fy,λg=>aV λcb=>(cr _ g cb).elim (λh=>h hG0) (hX _ (by omega))⟩;refine A6 hρ aq cE hR hD ZS hT (λ_=>lA) eC ?_;intro x w' F' μ' tM hx hf;have zEo:∀ id,PZ b9 j id->O.H.get id≠none:=λid py=>by rw[<- e2];exact tr.Dw tG Zq hj py
   obtain ⟨k1,k2⟩:=rg.merge (G':=Gk b9 (λi=>S i\/i=j) ops.toList.length) eL tM hf
    (λid o1 h=>by
      by_cases py:PZ b9 j id
      . rw[tc py,e2]at h;exact .inl h
      . have e:O.H.get id=(b9 j).H.get id:=by rw[<- e2];exact aV λh=>py h
        rw[Ew py]at h;rcases I7 wZ (Mk ops.toList Ts) id with⟨i,hm,rfl⟩|lb
        . by_cases C:S i
          . by_cases M:i<j
            . rw[cC hm C M]at h;exact .inl (by rw[e];exact h)
            . exact .inr ⟨h,zeK i hm (by omega)⟩
          . rw[Fo hm C]at h;cases h
        . rw[zb6 lb]at h;exact .inl (by rw[e];exact h))
    (λid h=>by
      by_cases py:PZ b9 j id
      . rw[tc py,e2];exact zEo id py
      . rw[Ew py];exact h)
    (λid h=>by
      by_cases py:PZ b9 j id
      . rw[tc py,e2]at h;exact absurd h (zEo id py)
      . have e:O.H.get id=(b9 j).H.get id:=by rw[<- e2];exact aV λh=>py h
        rw[Ew py]at h;rcases I7 wZ (Mk ops.toList Ts) id with⟨i,hm,rfl⟩|lb
        . by_cases M:i<j
          . by_cases C:S i
            . rw[cC hm C M]at h;exact .inl (by rw[e];exact h)
            . exact .inr ⟨zoj i hm M,zoh i hm C⟩
          . exact .inl (zeK i hm (by omega))
        . rw[zb6 lb]at h;exact .inl (by rw[e];exact h))
    (.inl λid o1 h tw=>by
      rcases I7 wZ (Mk ops.toList Ts) id with⟨i,hm,rfl⟩|lb
      . by_cases C:S i
        . by_cases M:i<j
          . grind
          . rw[qS hm C (by omega)]at h;obtain⟨o3,h3,h4⟩:=(tr.made hm).2.2.2.1
            grind
        grind
      . rw[zb6 lb]at h
        exact absurd tw (kd _ (by rw[h];simp)))
    (λid h cb=>by
      rcases I7 wZ (Mk ops.toList Ts) id with⟨i,hm,rfl⟩|lb
      . by_cases M:i<j
        . exact absurd h (zoj i hm M)
        . exact absurd (zeK i hm (by omega)) cb
      . rw[zb6 lb];exact h)
   exact hK _ w' F' μ' ⟨UD,k1,fr.trans k2,k2.cr cr,MJ tr inv b8 (λ_ _ h=>k2.rep rg h) ho hS hB hx,(mL _).1,
    by rw[(mL _).2];exact inv.marks.bw hR hf⟩
 . -- a store
   obtain⟨hc,zDW,At,O,eC,hh,_⟩:=h3;rw[if_pos (Fe hT hw)];have eL:=hrd (kf:=rX (iA (Ts j) (looks ops.toList o)) (b9 j) o.op) (n:=0) (l:=[]) (λid h=>by rw[At];exact h);have hR:=inv.rg.toR eL;obtain⟨hd,hv,w',F',z9,tM,hf⟩:=zmv hρ hR hT zDW eC;refine⟨λ_ _=>trivial,?_⟩;rw[Oper.semAt_eq _ _ _ hd,z9];have e2:∀ id,(b9 (j+1)).H.get id=if id∈rX (iA (Ts j) (looks ops.toList o)) (b9 j) o.op/\O.H.get id≠none then O.H.get id else (b9 j).H.get id:=λid=>by rw[hh];exact IG _ _
   have hold:∀ id,O.H.get id≠none->id∈rX (iA (Ts j) (looks ops.toList o)) (b9 j) o.op/\(b9 j).H.get id≠none:=by
    intro id h
    cases hq:O.H.get id with
    |none=>exact absurd hq h
    | some q =>
      grind [WJ,LA]
   have zJW:∀ id,(b9 j).H.get id≠none->¬ X id:=λid h hx=>tr.xA tG Zq (i:=j) (j:=ops.toList.length) (by omega) (af _) h (hO id hx)
   obtain ⟨k1,k2⟩:=inv.rg.merge (G':=Gk b9 (λi=>S i\/i=j) ops.toList.length) eL tM hf
    (λid o1 h=>by
      by_cases py:PZ b9 j id
      . have h5:id∈rX (iA (Ts j) (looks ops.toList o)) (b9 j) o.op/\O.H.get id≠none:=aV λhn=>py (by rw[e2,if_neg hn])
        grind
      . rw [Ew py]at h;by_cases hn:O.H.get id=none
        . grind
        . left;obtain⟨h3,h4⟩:=hold id hn
          have h5:O.H.get id=(b9 j).H.get id:=by
           have:(b9 (j+1)).H.get id=(b9 j).H.get id:=aV λh=>py h
           rw[e2,if_pos ⟨h3,hn⟩]at this;exact this
          rw[h5]
          cases hq:(b9 j).H.get id with
          |none=>exact absurd hq h4
          |some q=>rw[tr.reads tG Zq hj hS inv.down hB (by rw[At];exact h3) hq h])
    (λid h=>by
      by_cases py:PZ b9 j id
      . rw[tc py];exact tr.Dw tG Zq hj py
      . rw[Ew py];exact h)
    (λid h=>by
      by_cases hn:O.H.get id=none
      . exact .inl hn
      . right;obtain⟨h3,h4⟩:=hold id hn;refine⟨by show (iA _ _).get id≠none;rw[zD,if_pos h3];exact h4,λg=>aV λcb=>?_⟩;rcases inv.cr id g cb with h5|h5
        . by_cases py:PZ b9 j id
          . rw[tc py]at h;exact tr.Dw tG Zq hj py h
          . rw[Ew py]at h;exact h5 h
        . exact zJW id h4 h5)
    (.inr (.inr λid q hq m hm=>by
      obtain⟨o0,h3,h4⟩:=WJ zDW eC hq
      exact⟨o0,h3,by rw[h4];exact hm⟩))
    (λid h cb=>by
      obtain⟨h3,h4⟩:=hold id cb;have:(iA (b9 j).H (rX (iA (Ts j) (looks ops.toList o)) (b9 j) o.op)).get id=none:=h;rw[zD,if_pos h3]at this
      exact absurd this h4)
   have hx:dV I w' F' μ (vs j) undef:=by rw[hv];exact .pure (.tuple [] #[] rfl λi v hi=>by simp at hi)
   exact hK _ w' F' μ ⟨UD,k1,inv.fr.trans k2,k2.cr inv.cr,MJ tr inv b8 (λ_ _ h=>k2.rep inv.rg h) ho hS hB hx,(mL _).1,
    by rw[(mL _).2];exact inv.marks.bw hR hf⟩
end
end Go.J
