import Derived.Test.YtfloillkpbhhhaaGreatJK3
set_option linter.all false
noncomputable section
namespace Go.J
variable {a:Act}{ts:Array TypeId}{dr q:Bool}{c:Call}{Q:Ending->World->Prop}{ev:Ev}{e:Ex}{f:FuncId}{l:FuncId×PT V×Z Nat×Code×Code×Nat}{C a9:HS}{b i j k m t:Nat}{μ μ':Nat->Nat->Y MI}{F F' F2 S:Nat->Prop}{G' cN:Nat->Y Obj}{o y:Oper}{T T':PT V}{P:Program}{α:Type}{tR:TypeId}{v:V}{x:Value}{p:V×HS}{w' w2:World}{ds:Y (Z Deferred)}{pd:Y Code}{r:Y Nat}{d:Y Tmp}{ps:Z Nat}{vs:Z V}
section
variable {I:Nat->Value}{w:World}
def zAB(I:Nat->Value)(P:Program)(w:World)(F:Nat->Prop)(μ:Nat->Nat->Y MI)(C:HS)(v:V)(a9:HS):Ending->World->Prop
 |.returned x,w'=>∃ F' μ',R I w' F' μ' P a9/\dZ I w' F' μ' v x/\Fr w F μ C w' F' μ' a9
 |_,_=>False
def Nk(I:Nat->Value)(w:World)(F:Nat->Prop)(μ:Nat->Nat->Y MI)(vs:Z V)(xs:Array Value):Prop :=
 xs.size=vs.length/\∀ (i:Nat) (v:V),vs[i]?=some v->∃ x,xs[i]?=some x/\dZ I w F μ v x
def aS(I:Nat->Value)(P:Program)(f:FuncId)(vs:Z V)(C:HS)(v:V)(a9:HS):Prop :=
 ∀ X w F μ xs,R I w F μ P C->Py X μ C->pP X a9->Nk I w F μ vs xs->CallsIn Fence.wide 0 P f xs w (zAB I P w F μ C v a9)
def jo:∀ {vs:Z V},bX vs=true->∀ v∈vs,v.pure=true:=by
 intro vs
 induction vs with
 |nil=>intro _ v hv;simp at hv
 | cons u vs ih =>
   intro h v hv;replace h:et u.pure (bX vs)=true:=h;rw[dz]at h;rcases ay.1 hv with rfl|hv;exact h.1;exact ih h.2 v hv
theorem alone(hR:R I w F μ P C)(D0:Io w w')(cd:w.heap.size<=w'.heap.size)(hk:∀ b,b<w.heap.size->w'.heap[b]?=w.heap[b]?) :
 R I w' (λb=>F b\/(w.heap.size<=b/\b<w'.heap.size)) μ P C/\Fr w F μ C w' (λb=>F b\/(w.heap.size<=b/\b<w'.heap.size)) μ C:=by
 have h:=hR.grow cd hk;have hold:∀ id g m,μ id g=some m->¬ (w.heap.size<=m.b/\m.b<w'.heap.size):=λid g m hm hb=>by have:=hR.lt _ _ _ hm;omega
 refine⟨⟨h.lt,?_,?_,h.inj,h.zL,h.gl.bw (λ_ h=>.inl h) λ_ _=>rfl⟩,⟨D0,cd,λb hb _=>hk b hb,λb hb=>.inl hb,?_,λ_ _ _ h=>h,λb hb=>.inl hb,λ_ h=>h,λ_ _ _=>rfl,λ_ _ h=>h,λi g m h=>.inr ⟨i,g,m,h,rfl⟩⟩⟩;rintro b (hb|hb);exact h.BR b hb;exact hb.2;intro id o ho;refine(h.obj id o ho).mono (λ_ h=>.inl h) (λ_ _=>rfl) (λ_ _ _ h=>h) (λ_ h=>h) (λ_ _=>rfl) ?_;rintro m hm _ hn (hF|hb);exact hn hF;exact hold _ _ _ hm hb;rintro b (hb|hb);exact .inl hb;exact .inr (.inl hb.1)
theorem Sm(hp:bX vs=true)(hc:∀ {v a9},ev.call f vs jv=some (v,a9)->aS I P f vs jv v a9)
 (h:rW ev f vs C=some (v,a9)):aS I P f vs C v a9:=by
 simp only[rW,aC]at h;let⟨⟨v1,cp⟩,M,v',O,h⟩:=h;cases h;intro X w F μ xs hR hD hO hA
 have mA:Nk I w F (λ_ _=>none) vs xs:=⟨hA.1,λi u hi=>by
  let⟨x,W,hr⟩:=hA.2 i u hi
  exact⟨x,W,.pure (hr.CF I (jo hp u (aI hi)))⟩⟩
 refine(hc M _ w F (λ_ _=>none) xs (R.empty hR.BR hR.gl) Py.empty (pP.no _) mA).mono λe w' he=>?_
 cases e with
 | returned x =>let⟨F1,μ1,g1,g2,g3⟩:=he;have jt:∀ b,b<w.heap.size->w'.heap[b]?=w.heap[b]?:=λb hb=>g3.bw b hb (uw b _);let⟨a1,a2⟩:=alone hR g3.io g3.size jt;refine⟨_,μ,a1,.pure (PR g1 g2 O ?_ ?_),a2⟩;intro b hb;have cG:=g1.BR b hb;rcases g3.CQ b hb with h|h|h;exact .inl h;exact .inr ⟨h,cG⟩;exact absurd h (uw b _);intro id g m hm;rcases g3.mn id g m hm with h|⟨i,j,m0,h,_⟩;exact .inr ⟨h,g1.lt _ _ _ hm⟩;cases h
 |panicked c=>exact he
 |outgrown=>exact he
def Kq(h:dZ I w F μ v x)(C:v.Jj=true):fJ I w2 F2 v x:=by
 cases h with
 |pure h=>cases h<;>first|(cases C;done)|constructor
 |_=>cases C
theorem zi1:∀ {vs:Z V},zvd vs=true->∀ v∈vs,v.Jj=true:=by
 intro vs
 induction vs with
 |nil=>intro _ v hv;simp at hv
 | cons u vs ih =>
   intro h v hv;replace h:et u.Jj (zvd vs)=true:=h;rw[dz]at h;grind
def zck(h:dZ I w F μ v x)(C:v.SP=true):fJ I w2 F2 v x:=by
 unfold V.SP at C;split at C;obtain⟨ys,rfl,M,O⟩:=h.xy;exact .agg _ ys M λi v hi=>Kq (O i v hi) (zi1 C v (aI hi));obtain⟨ys,rfl,M,O⟩:=h.qF;exact .tuple _ ys M λi v hi=>Kq (O i v hi) (zi1 C v (aI hi));exact Kq h C
def zdO{ij:Z V}(hp:mf C vs=some ij)(hc:∀ {v a9},ev.call f ij jv=some (v,a9)->aS I P f ij jv v a9)
 (h:oD ev f ij C=some (v,a9)):aS I P f vs C v a9:=by
 simp only[oD,aC,bI]at h;let⟨⟨v1,cp⟩,M,O,h⟩:=h;cases h;intro X w F μ xs hR hD hO hA;let⟨hlen,b7⟩:=Ko hR (F':=λb=>b<w.heap.size) hR.BR hp (λ_ _ _ _ id g off len cap _ m hm=>hR.lt id g m hm)
 have mA:Nk I w (λb=>b<w.heap.size) (λ_ _=>none) ij xs:=⟨hA.1.trans hlen.symm,λi u hi=>by
  let⟨u0,hu0,hr⟩:=b7 i u hi;let⟨x,W,z7⟩:=hA.2 i u0 hu0
  exact⟨x,W,.pure (hr x z7)⟩⟩
 refine(hc M _ w _ (λ_ _=>none) xs (R.empty (λ_ h=>h) (hR.gl.bw hR.BR λ_ _=>rfl)) Py.empty (pP.no _) mA).mono λe w' he=>?_
 cases e with
 | returned x =>let⟨F1,μ1,g1,g2,g3⟩:=he;have jt:∀ b,b<w.heap.size->w'.heap[b]?=w.heap[b]?:=λb hb=>g3.bw b hb (uw b _);let⟨a1,a2⟩:=alone hR g3.io g3.size jt;exact⟨_,μ,a1,.pure (zck g2 O),a2⟩
 |panicked c=>exact he
 |outgrown=>exact he
def Z6(v:V)(l:Z V)(C:HS):kK (v::l) C=ob (nE v C) λr=>ob (kK l r.2) λq=>some (r.1::q.1,q.2):=rfl
theorem zZ{I:Nat->Value}{w:World}:∀ {l l':Z V} {xs:Z Value} {C a9:HS} {F:Nat->Prop},kK l C=some (l',a9)->R I w F μ P C ->
 (∀ (i:Nat) (v:V),l[i]?=some v->∃ x,xs[i]?=some x/\dZ I w F μ v x) ->
 ∃ F',R I w F' μ P a9/\Fr w F μ C w F' μ a9/\Kept C a9/\l'.length=l.length/\∀ (i:Nat) (v:V),l'[i]?=some v->∃ x,xs[i]?=some x/\fJ I w F' v x:=by
 intro l
 induction l with
 | nil =>intro l' xs C a9 F h hR _;cases h;grind [Fr.refl,Kept.refl]
 | cons v l ih =>
   intro l' xs C a9 F h hR CD;rw[Z6]at h;simp only[aC]at h;let⟨⟨u,cp⟩,hu,⟨m,ea⟩,hm,h⟩:=h;cases h;let⟨x0,u1,z7⟩:=CD 0 v rfl;let⟨F1,M,O,_,h4⟩:=zY hR z7 hu
   let⟨F2,k1,k2,k3,k4,k5⟩:=ih (xs:=xs.drop 1) hm M (λi y hi=>by
    let⟨x,W,hr⟩:=CD (i+1) y (by simpa using hi)
    exact⟨x,by simpa [nD]using W,O.rep hR hr⟩)
   refine⟨F2,k1,O.trans k2,(pE hu).trans k3,by simp[k4],λi y hi=>?_⟩
   cases i with
   |zero=>cases hi;exact⟨x0,u1,k2.zK2 M h4⟩
   | succ i =>
     grind
def zsV{r:V×HS}(hR:R I w F μ P r.2)(W:dZ I w F μ r.1 x)(h:zfg r=some p) :
 ∃ F',R I w F' μ P p.2/\Fr w F μ r.2 w F' μ p.2/\dZ I w F' μ p.1 x:=by
 unfold zfg at h;split at h;rename_i vs hv;rw[hv]at W;simp only[aC]at h;let⟨q,hq,h⟩:=h;cases h;obtain⟨ys,rfl,M,O⟩:=W.qF
 let⟨F',a1,a2,_,a4,a5⟩:=zZ (xs:=ys.toList) (l':=q.1) (a9:=q.2) hq hR (λi v hi=>by
  have cG:i<ys.size:=by rw[M];exact(aM.1 hi).1
  refine⟨ys[i],by simp[cG],?_⟩;have:=O i v hi
  rwa [bS,fB cG]at this)
 refine⟨F',a1,a2,.tuple _ ys (by rw[M,a4]) λi v hi=>?_⟩;let⟨y,hy,hr⟩:=a5 i v hi;have Jx:ys[i]?=some y:=by simpa using hy
 rw[bS,Jx];exact .pure hr;let⟨F',a1,a2,_,a4⟩:=zY (v':=p.1) (a9:=p.2) hR W h;exact⟨F',a1,a2,.pure a4⟩
theorem zlX {E:Env}     (hc:∀ {vs C v a9},ev.call f vs C=some (v,a9)->aS I P f vs C v a9)
 (h:Fy E ev f vs C=some (v,a9)):aS I P f vs C v a9:=by
 unfold Fy at h
 cases hp:E.zj f with
 | zero =>rw[hp]at h;replace h:bi (bX vs) (rW ev f vs C) (ev.call f vs C)=some (v,a9):=h;grind [iV,Sm]
 | succ m =>
   rw[hp]at h
   cases m with
   |zero=>exact hc h
   | succ m =>
     cases m with
     | zero =>
       replace h:u6 (ev.call f vs C) (λeI=>oD ev f eI C) (mf C vs)=some (v,a9):=h
       cases cp:mf C vs with
       |none=>rw[cp]at h;exact hc h
       |some eI=>rw[cp]at h;exact zdO cp hc h
     | succ m =>
       replace h:Bc ev f vs C=some (v,a9):=h;simp only[Bc,aC]at h;let⟨⟨v1,cp⟩,hq,h⟩:=h
       cases hp:zfg (v1,cp)with
       |none=>rw[hp]at h;cases h;exact hc hq
       | some p =>
         rw[hp]at h;cases h;intro X w F μ xs hR hD hO hA;refine(hc hq X w F μ xs hR hD ((X6 hp).off hO) hA).mono λe w' he=>?_
         cases e with
         | returned x =>let⟨F1,μ1,g1,g2,g3⟩:=he;let⟨F2,k1,k2,k3⟩:=zsV g1 g2 hp;exact⟨F2,μ1,k1,k3,g3.trans k2⟩
         |panicked c=>exact he
         |outgrown=>exact he
def zw0(I:Nat->Value)(E:Env):Prop:=∀ {f vs C v a9},E.dA f vs C=some (v,a9)->aS I E.P f vs C v a9
def zqi{E:Env}(aq:zw0 I E)(hc:∀ {vs C v a9},ev.call f vs C=some (v,a9)->aS I E.P f vs C v a9)
 (h:Gd E ev f vs C=some (v,a9)):aS I E.P f vs C v a9:=by
 unfold Gd at h
 cases hq:E.dA f vs C with
 |none=>rw[hq]at h;exact zlX hc h
 |some q=>rw[hq]at h;cases h;exact aq hq
end
def Wr(r:Y Nat):Fence:={ Fence.wide with round:=r }
def Wv{xs:Array Value}{w:World}(h:CallsIn Fence.wide 0 P f xs w Q):CallsIn (Wr r) 0 P f xs w Q:=h
structure NB where
 n:Nat
 base:List Deferred
 plain:Bool:=false
def Marks(N:NB)(w:World)(ds:Z Deferred):Prop :=
 N.n<=w.heap.size/\∃ rs:Z Nat,(rs.Nodup/\(N.plain=true->rs=[]))/\ds=rs.map (λr=>{ target:=.collected r,args:=#[] })++N.base/\∀ r∈rs,N.n<=r/\w.heap[r]?=some (.deferred (some []))
def zpR:Ex->Exit
 |.normal=>.normal
 |.ret=>.ret
 |.exit id=>.exit id
def Marks.nil{N:Nat}{p:Bool}{w:World}(h:N<=w.heap.size):Marks ⟨N,[],p⟩ w []:=⟨h,[],⟨jP,λ_=>rfl⟩,rfl,λ_ h=>by cases h⟩
section
variable {I:Nat->Value}{w:World}{Q:Exit->Act->World->Prop}{K:Act->World->Prop}{X:Nat->Prop}
theorem R.deferred(hR:R I w F μ P C){r:Nat}(h:w.heap[r]?=some (.deferred ds)):¬ zS C μ r:=by
 rintro ⟨id,o,m,ho,_,hm,rfl⟩;have:=hR.obj id o ho
 cases o with
 | arr size gen es ex fz row =>obtain⟨_,_,⟨_,_,M,_⟩,_⟩:=this m hm;grind
 | mp es =>obtain⟨⟨_,_,M,_⟩,_⟩:=this m hm;grind
 | lp a b c d e f =>
   obtain⟨⟨_,M,_⟩,_⟩:=this m hm;grind
theorem Marks.bw{N:NB}{ds:Z Deferred}(h:Marks N w ds)(hR:R I w F μ P C)(hf:Fr w F μ C w' F' μ' a9):Marks N w' ds:=by
 let⟨hN,rs,M,O,h3⟩:=h;refine⟨aO hN hf.size,rs,M,O,λr hr=>⟨(h3 r hr).1,?_⟩⟩;have h4:=(h3 r hr).2;have cG:r<w.heap.size:=by grind
 rw[hf.bw r cG (hR.deferred h4)];exact h4
def zhf (I:Nat->Value) (P:Program) (rd:Bool) (sz:Nat) (c:Code) (T:PT V) (C:HS) (ex:Ex) (T':PT V) (a9:HS):Prop :=
 ∀ (N:NB) (X:Nat->Prop) (r:Y Nat) (w:World) (F:Nat->Prop) (μ:Nat->Nat->Y MI) (a:Act) (Q:Exit->Act->World->Prop),((rd=false->r=none)/\N.plain=false)->R I w F μ P C->Py X μ C->pP X a9->kR I w F μ T a.tmps->sz<=a.tmps.size->Marks N w a.defers ->
   (∀ a' w' F' μ',R I w' F' μ' P a9->kR I w' F' μ' T' a'.tmps->a'.tmps.size=a.tmps.size->Marks N w' a'.defers->Fr w F μ C w' F' μ' a9->Q (zpR ex) a' w')->c.wpIn (Wr r) 0 P Q a w
def vM (P : Program) (f : FuncId) : Prop := ∃ fn, P.funcs[f]? = some fn /\ fn.body.isSome = true /\ fn.name ≠ "runtime.NumGoroutine"
structure TE(I:Nat->Value)(E:Env)(ev:Ev):Prop where
 code:∀ {rd sz c T C ex T' a9},ev.code rd sz c T C=some (ex,T',a9)->zhf I E.P rd sz c T C ex T' a9
 call:∀ {f vs C v a9},ev.call f vs C=some (v,a9)->aS I E.P f vs C v a9
 body:∀ {f vs C r},ev.call f vs C=some r->vM E.P f
 kept:rP ev
structure bK(I:Nat->Value)(E:Env):Prop where
 ok:zw0 I E
 kept:qz E
 body:∀ {f vs C r},E.dA f vs C=some r->vM E.P f
theorem zgB {E:Env}  (aq:bK I E) (cH:TE I E ev)   {r:V×HS} (h:Gd E ev f vs C=some r):vM E.P f:=by
 unfold Gd at h
 cases hq:E.dA f vs C with
 |some q=>exact aq.body hq
 | none =>
   rw[hq]at h;replace h:Fy E ev f vs C=some r:=h;unfold Fy at h
   cases hp:E.zj f with
   | zero =>rw[hp]at h;replace h:bi (bX vs) (rW ev f vs C) (ev.call f vs C)=some r:=h;rw[iV]at h;split at h;simp only[rW,aC]at h;let⟨_,h,_⟩:=h;exact cH.body h;exact cH.body h
   | succ m =>
     rw[hp]at h
     cases m with
     |zero=>exact cH.body (r:=r) h
     | succ m =>
      cases m with
      |succ m =>replace h:Bc ev f vs C=some r:=h;simp only[Bc,aC]at h;let⟨_,h,_⟩:=h;exact cH.body h
      |zero =>
       replace h:u6 (ev.call f vs C) (λeI=>oD ev f eI C) (mf C vs)=some r:=h
       cases cp:mf C vs with
       |none=>rw[cp]at h;exact cH.body (r:=r) h
       | some eI =>
         rw[cp]at h;replace h:oD ev f eI C=some r:=h;simp only[oD,aC]at h;let⟨_,h,_⟩:=h;exact cH.body h
theorem Fr.znh(hf:Fr w F μ C w' F' μ' a9)(hR:R I w F μ P C){xs:Array Value}(h:kR I w F μ T xs):kR I w' F' μ' T xs:=by
 intro t v hv;let⟨x,W,hr⟩:=h t v hv;exact⟨x,W,hf.rep hR hr⟩
theorem zcB{sz:Nat}(hT:kR I w F μ T a.tmps)(cd:sz<=a.tmps.size)(W:dZ I w F μ v x)(h:KV sz T d v=some T') :
 kR I w F μ T' (a.put d x).tmps/\(a.put d x).tmps.size=a.tmps.size/\(a.put d x).defers=a.defers:=by
 unfold KV at h
 cases d with
 |none=>rw[Bi]at h;cases h;exact⟨hT,rfl,rfl⟩
 | some d =>
   rw[kX]at h;simp only[bI,gz]at h;let⟨cG,h⟩:=h;cases h;refine⟨λt u hu=>?_,by simp[Act.put],rfl⟩;rw[PT.cZ]at hu;by_cases e:t=d;subst e;rw[if_pos rfl]at hu;cases hu;exact⟨x,by simp[Act.put,cu cG cd],W⟩;rw[if_neg e]at hu;let⟨y,hy,hr⟩:=hT t u hu;exact⟨y,by simpa [Act.put,Array.getElem?_setIfInBounds,Ne.symm e]using hy,hr⟩
theorem FI{ops:Array Oper}(hT:kR I w F μ T a.tmps)(h:xQ ops.toList T o=some q):Region.wanted o (yielded ops a.tmps)=q:=by
 unfold xQ at h;unfold Region.wanted
 cases hg:o.guard with
 |none=>rw[hg]at h;cases h;rfl
 | some g =>
   rw[hg,kX]at h;let⟨j,want⟩:=g;simp only[aC,sP]at h;let⟨p,hp,d,hd,v,hv,h⟩:=h;let⟨x,W,hr⟩:=hT d v hv;have tM:ops[j]?=some p:=(by simpa using hp);split at h;have e:=hr.uL;subst e;cases h;simp[yielded,tM,hd,W,Gg]
   try (cases want<;>rename_i b<;>cases b<;>rfl)
   obtain⟨ys,rfl,_,_⟩:=hr.qF;cases h;simp[yielded,tM,hd,W];cases h
end
def Q2(I:Nat->Value)(P:Program)(w:World)(F:Nat->Prop)(μ:Nat->Nat->Y MI)(C:HS)(v:V)(a9:HS)(K:Value->World->Prop):Prop :=
 ∀ x w' F' μ',R I w' F' μ' P a9->dZ I w' F' μ' v x->Fr w F μ C w' F' μ' a9->K x w'
section
variable {I:Nat->Value}{w:World}{Q:Exit->Act->World->Prop}{K:Act->World->Prop}{X:Nat->Prop}
theorem NI(h:vM P f)(xs:Array Value)(w:World):(callFunc f xs).run P w=.ok (.enter f xs) w:=by
 let⟨fn,hf,hb,hn⟩:=h;have hb':fn.body≠none:=by cases h:fn.body<;>simp_all
 have hp:(Sem.program Sem.pure).run P w=.ok P w:=rfl;simp[callFunc,program,hp,hf,hn,hb']
theorem Qd(hd:∀ c,o.op≠.defer c)(h:Zi I P w F μ C (execOp a.eval o) v a9)
 (hK:Q2 I P w F μ C v a9 λx w'=>K (a.put o.dst x) w'):o.wpIn (Wr r) 0 P a w K Q:=by
 refine⟨λ_ _=>trivial,?_⟩;let⟨n,x,w',F',μ',M,O,h3,h4,h5⟩:=h;rw[Oper.semAt_eq _ _ _ hd,M];rcases O with rfl|⟨rfl,rfl⟩;exact hK x w' F' μ' h3 h4 h5;exact hK _ w' F' μ' h3 h4 h5
theorem zku{xs:Array Value}(hd:∀ c,o.op≠.defer c)(he:(execOp a.eval o).run P w=.ok (.enter f xs) w)(hR:R I w F μ P C)(hD:Py X μ C)(hO:pP X a9)
 (hA:Nk I w F μ vs xs) (hc:aS I P f vs C v a9) (hK:Q2 I P w F μ C v a9 λx w'=>K (a.put o.dst x) w'):o.wpIn (Wr r) 0 P a w K Q:=by
 refine⟨λ_ _=>trivial,?_⟩;rw[Oper.semAt_eq _ _ _ hd,he,Oper.uponIn_enter];refine And.intro (λh=>(by cases h)) (Wv ((hc X w F μ xs hR hD hO hA).mono λe w' he=>?_))
 cases e with
 | returned x =>let⟨F',μ',M,O,h3⟩:=he;exact hK x w' F' μ' M O h3
 |panicked c=>exact he.elim
 |outgrown=>exact he.elim
theorem zjd {sz:Nat}:∀ {ps:Z Nat} {vs:Z V} {T T':PT V} {tm:Array Value} {xs:Z Value},IV sz ps vs T=some T'->xs.length=vs.length ->
 (∀ (i:Nat) (v:V),vs[i]?=some v->∃ x,xs[i]?=some x/\dZ I w F μ v x)->kR I w F μ T tm->sz<=tm.size ->
 ps.length=vs.length/\kR I w F μ T' ((ps.zip xs).foldl (λtm p=>tm.setIfInBounds p.1 p.2) tm)/\((ps.zip xs).foldl (λtm p=>tm.setIfInBounds p.1 p.2) tm).size=tm.size:=by
 intro ps
 induction ps with
 | nil =>
   intro vs T T' tm xs h hl W hT cd
   cases vs with
   |nil=>cases h;exact⟨rfl,hT,rfl⟩
   |cons _ _=>cases h
 | cons p ps ih =>
   intro vs T T' tm xs h hl W hT cd
   cases vs with
   |nil=>cases h
   | cons v vs =>
     replace h:gd (Nat.blt p sz) (IV sz ps vs (T.set p v))=some T':=h;simp only[bI,gz]at h
     cases xs with
     |nil=>simp at hl
     | cons x xs =>
       let⟨x',u3,hr⟩:=W 0 v rfl;cases u3;have ir:kR I w F μ (T.set p v) (tm.setIfInBounds p x):=(by intro t u hu;rw[PT.cZ]at hu;by_cases e:t=p;grind;rw[if_neg e]at hu;let⟨y,hy,hr⟩:=hT t u hu;grind);let⟨M,O,h3⟩:=ih (tm:=tm.setIfInBounds p x) (xs:=xs) h.2 (by simpa using hl) (λi u hi=>W (i+1) u hi) ir (by simpa using cd);simp_all
theorem gS{l:Nat}{r:Loop}(h:w.heap[l]?=some (.loop r)):(Instr.getLoop l).run P w=.ok r w:=by
 simp[Instr.getLoop,Du h (λ_ _ _ h=>by cases h)]
theorem r8{l:Nat}{r:Loop}(h:w.heap[l]?=some (.loop r))(C:r.state=.ready) :
 (Instr.beginRound l).run P w=.ok () { w with heap:=w.heap.setIfInBounds l (.loop { r with state:=.busy }) }:=by
 simp[Instr.beginRound,gS h,Dt h (λ_ _ _ h=>by cases h),C]
theorem j8{l:Nat}{r:Loop}(jump:Y Code)(h:w.heap[l]?=some (.loop r)) :
 (Instr.endRound l jump).run P w=.ok (.bool jump.isNone) { w with heap:=w.heap.setIfInBounds l (.loop { r with state:=if jump.isNone then .ready else .done,pending:=jump }) }:=by
 simp[Instr.endRound,gS h,Dt h (λ_ _ _ h=>by cases h)]
theorem EV{l:Nat}{r:Loop}{xs:Array Value}(h:w.heap[l]?=some (.loop r))(hn:xs.size=r.params.size) :
 (Instr.yield l xs).run P w=.ok (.round l r.fn ((r.params.zip xs).foldl (λtmps (t,a)=>tmps.setIfInBounds t a) r.tmps) r.assign r.body) w:=by
 simp[Instr.yield,gS h,hn]
theorem DI(hR:R I w F μ P C){id:Nat}{m:MI}(hm:μ id 0=some m){fn:Nat}{as bd:Code}{b':Nat}(hg:C.H.get id=some (.lp fn T ps as bd b)){l:Loop}
 (hl:w.heap[m.b]?=some (.loop l)) {st:LoopState}  (eK:zNl b' { l with state:=st,pending:=pd }) :
 R I { w with heap:=w.heap.setIfInBounds m.b (.loop { l with state:=st,pending:=pd }) } F μ P (C.wr id (.lp fn T ps as bd b')) /\
 Fr w F μ C { w with heap:=w.heap.setIfInBounds m.b (.loop { l with state:=st,pending:=pd }) } F μ (C.wr id (.lp fn T ps as bd b')):=by
 let⟨⟨l0,h0,M,h3,h4,h5,h6,h7⟩,wg⟩:=hR.obj id _ hg m hm;rw[hl]at h0;cases h0;have cG:m.b<w.heap.size:=hR.lt _ _ _ hm;have hold:∀ c,c≠m.b->({ w with heap:=w.heap.setIfInBounds m.b (.loop { l with state:=st,pending:=pd }) }:World).heap[c]?=w.heap[c]?:=by grind
 refine hR.write (o':=.lp fn T ps as bd b') hg rfl hm rfl rfl (by simp) hold (λk=>EZ ..) ?_;intro m' eW;have e:m'=m:=by grind
 subst e;refine⟨⟨{ l with state:=st,pending:=pd },by simp[cG],eK,h3,h4,h5,λt v hv=>?_,h7⟩,wg⟩;let⟨x,W,hr⟩:=h6 t v hv;exact⟨x,W,hr.mono I (λ_ h=>h) (λc hc=>hold c (λe=>wg (e ▸ hc))) (λ_ _ _ h=>h)⟩
theorem Hx {o:Obj}:o.lp?=some l↔o=.lp l.1 l.2.1 l.2.2.1 l.2.2.2.1 l.2.2.2.2.1 l.2.2.2.2.2:=by
 cases o with
 | lp a b c d e f =>grind [Obj.lp?]
 |_=>simp[Obj.lp?]
theorem zc8:Oq e=true↔e=.normal:=by cases e<;>simp[Oq]
theorem znZ{E:Env}(cH:TE I E ev)(hR:R I w F μ E.P C)(hD:Py X μ C)(hO:pP X a9){id:Nat}{m:MI}{xs:Array Value}(hd:∀ c,o.op≠.defer c)
 (hm:μ id 0=some m) (hA:Nk I w F μ vs xs) (he:(execOp a.eval o).run E.P w=(Instr.yield m.b xs).run E.P w) (h:zW ev id vs C=some (v,a9))
 (hK:Q2 I E.P w F μ C v a9 λx w'=>K (a.put o.dst x) w'):o.wpIn (Wr r) 0 E.P a w K Q:=by
 simp only[zW,aC,bI,beq_true,Hx,zc8]at h;obtain⟨_,ho,l,rfl,hb,T1,ir,⟨Tm,T2,cp⟩,we,zMc,_,ho1,l1,rfl,Kf,⟨Cr,T3,ea⟩,nj,_,z9,l2,rfl,h⟩:=h;cases h;dsimp only at *;subst zMc;let⟨⟨lw,g0,g1,g3,g4,g5,g6,g7⟩,gF⟩:=hR.obj id _ ho m hm;let⟨z1,z2,z3⟩:=zjd (xs:=xs.toList) (tm:=lw.tmps) ir (by simpa using hA.1) (λi u hi=>by simpa using hA.2 i u hi) g6 g7;have vQ:(lw.params.zip xs).foldl (λtmps (t,a)=>tmps.setIfInBounds t a) lw.tmps=(l.2.2.1.zip xs.toList).foldl (λtm p=>tm.setIfInBounds p.1 p.2) lw.tmps:=by rw[<- g3,<- Array.foldl_toList,Array.toList_zip]
 have fg:xs.size=lw.params.size:=by rw[hA.1,<- z1,<- g3];simp
 refine⟨λ_ _=>trivial,?_⟩;rw[Oper.semAt_eq _ _ _ hd,he,EV g0 fg,Oper.uponIn_round];refine⟨λh=>(by cases h),roundIn_of_wpIn trivial ?_⟩;rw[vQ,g4,g5];have hO3:pP X ea:=(o9 ..).off hO;have Oy:pP X cp:=((o9 ..).trans (cH.kept.code nj)).off hO3;have k1:=cH.code we;refine k1 ⟨0,[],false⟩ X (some m.b) w F μ _ _ ⟨λh=>(by cases h),rfl⟩ hR hD Oy z2 (by rw[z3];exact g7) (Marks.nil (aZ _)) ?_;intro a1 w1 F1 μ1 Gv zMn eL _ sB;have ez:=sB.mm _ _ _ hm;let⟨⟨zLl,e0,e1,e3,e4,e5,e6,e7⟩,eF⟩:=Gv.obj id _ ho1 m ez;rw[Kf]at e1;have e2:zLl.pending=none:=e1.2;refine⟨_,r8 e0 e1.1,?_⟩;have vj:=sB.cx (cH.kept.code we).le hD;have eP:({ zLl with state:=LoopState.busy }:Loop)={ zLl with state:=.busy,pending:=none }:=by rw[<- e2]
 rw[eP];let⟨pL,wj⟩:=DI Gv ez (b':=1) ho1 e0 (st:=.busy) (pd:=none) trivial;have hD2:=wj.cx (o9 ..).le vj;have k2:=cH.code nj;refine k2 ⟨0,[],false⟩ X (some m.b) _ F1 μ1 a1 _ ⟨λh=>(by cases h),rfl⟩ pL hD2 hO3 (wj.znh Gv zMn) (by rw[eL,z3];exact g7) ?_ ?_;grind [Marks.bw];intro a2 w3 F3 μ3 Wb hT3 zP9 _ Ty;have yW:=Ty.mm _ _ _ ez;let⟨⟨lw3,f0,_⟩,_⟩:=Wb.obj id _ z9 m yW
 cases Cr with
 | normal =>refine⟨_,_,j8 none f0,?_⟩;let⟨Wc,RR⟩:=DI Wb yW (b':=0) z9 f0 (st:=.ready) (pd:=none) ⟨rfl,rfl⟩;exact hK _ _ F3 μ3 Wc (.pure (.bool true)) (((sB.trans wj).trans Ty).trans RR)
 | ret =>refine⟨_,_,j8 (some .ret) f0,?_⟩;let⟨Wc,RR⟩:=DI Wb yW (b':=2) z9 f0 (st:=.done) (pd:=some .ret) ⟨rfl,rfl⟩;exact hK _ _ F3 μ3 Wc (.pure (.bool false)) (((sB.trans wj).trans Ty).trans RR)
 | exit i =>
   refine⟨_,_,j8 (some (.exit i)) f0,?_⟩;let⟨Wc,RR⟩:=DI Wb yW (b':=i+3) z9 f0 (st:=.done) (pd:=some (.exit i)) ⟨rfl,rfl⟩;exact hK _ _ F3 μ3 Wc (.pure (.bool false)) (((sB.trans wj).trans Ty).trans RR)
theorem Sn{o:Op}(h:qN o=some c):o=.call c:=by
 cases o<;>first|(cases h;rfl)|cases h
theorem Cp (hρ:Good I) {E:Env}  (aq:bK I E) (cH:TE I E ev)  (hR:R I w F μ E.P C) (hD:Py X μ C) (hO:pP X a9) (hT:kR I w F μ T a.tmps)   {id:Nat} 
 (hid:dX o.op≠0->IP μ C id) (h:cy E ev dr T C id o=some (v,a9)) (hK:Q2 I E.P w F μ C v a9 λx w'=>K (a.put o.dst x) w'):o.wpIn (Wr r) 0 E.P a w K Q:=by
 unfold cy at h
 cases hc:qN o.op with
 | none =>rw[hc]at h;replace h:UZ E.P dr T C id (WY o.op)=some (v,a9):=h;refine Qd (λc hd=>?_) (zok hρ hR hT hc hid h) hK;rw[hd]at h;cases h
 | some c =>
   have ho:=Sn hc;have hd:∀ c,o.op≠.defer c:=λc' h'=>(by rw[ho]at h';cases h');rw[hc]at h;replace h:wL E ev T C id c=some (v,a9):=h;simp only[wL,aC]at h;let⟨vs,fy,h⟩:=h;split at h;rename_i b hb
   obtain⟨cs,he⟩:∃ cs,execOp a.eval o=builtin b c.argTypes o.type cs (c.args.map a.eval) :=
    ⟨c.args.map λx=>match x with|.const _=>true|_=>false,by simp only[execOp,ho,resolve,hb,invoke];rfl⟩
   refine Qd hd ?_ hK;grind [zgC,dX];rename_i x W;simp only[aC]at h;let⟨u,hu,h⟩:=h;have hr:=dM hT hu;have eg:=WG hT fy;have hA:Nk I w F μ vs (c.args.map a.eval):=⟨by simpa using eg.1,eg.2⟩;unfold Mc at h;split at h;rename_i f Ca;let⟨ys,hy,hys,pC⟩:=hr.Br;have hf:=zgB aq cH h;have he:(execOp a.eval o).run E.P w=.ok (.enter f (c.args.map a.eval++ys)) w:=(by simp[execOp,ho,resolve,W,Deferred.ofValue,hy,invoke,NI hf]);refine zku hd he hR hD hO ⟨?_,λi v hi=>?_⟩ (zqi aq.ok cH.call h) hK;grind [oN];rw [oN]at hi;by_cases cG:i<vs.length;grind;rw[eU (by omega)]at hi;have O:=pC _ v hi;have Pl:i-vs.length<ys.size:=(by grind);refine⟨_,?_,O⟩;simp_all [Array.getElem?_append_right,fB,bS];rename_i l;let⟨m,hm,hy⟩:=hr.Nn;refine znZ cH hR hD hO hd hm hA ?_ h hK;simp[execOp,ho,resolve,W,Deferred.ofValue,hy,invoke];cases h;cases h
end
section
variable {I:Nat->Value}{w:World}{Q:Exit->Act->World->Prop}{X:Nat->Prop}{N:NB}
theorem ze9 (hρ:Good I) {E:Env}  (aq:bK I E) (cH:TE I E ev)  {sz:Nat} {ops:Array Oper} {rest:Z Nat}:∀ (l:Z Oper) {k id:Nat} {T T':PT V} {C a9:HS} {w:World} {F:Nat->Prop} {μ:Nat->Nat->Y MI} {a:Act},
 (ops.toList.drop k).take l.length=l->uX E ev sz ops.toList l id T C=some (T',a9)->(∀ j,id<=j->¬ X j)->R I w F μ E.P C->Py X μ C->pP X a9->kR I w F μ T a.tmps->sz<=a.tmps.size->Marks N w a.defers ->
 (∀ a' w' F' μ',R I w' F' μ' E.P a9->kR I w' F' μ' T' a'.tmps->a'.tmps.size=a.tmps.size->Marks N w' a'.defers->Fr w F μ C w' F' μ' a9->wpOpsIn (Wr r) 0 E.P ops Q rest a' w')->wpOpsIn (Wr r) 0 E.P ops Q (List.range' k l.length++rest) a w:=by
 intro l
 induction l with
 | nil =>intro k id T T' C a9 w F μ a hk h hX hR hD hO hT cd hM hQ;cases h;exact hQ a w F μ hR hT rfl hM (Fr.refl ..)
 | cons o l ih =>
   intro k id T T' C a9 w F μ a hk h hX hR hD hO hT cd hM hQ;replace h:(ob (wB E ev sz ops.toList o id T C) λr=>uX E ev sz ops.toList l (id+1) r.1 r.2)=some (T',a9):=h;simp only[aC]at h;let⟨⟨T1,cp⟩,hg,h⟩:=h;have hko:ops[k]?=some o:=(by have:((ops.toList.drop k).take (o::l).length)[0]?=some o:=(by rw[hk];rfl);grind);have np:(ops.toList.drop (k+1)).take l.length=l:=(by have:((ops.toList.drop k).take (o::l).length).drop 1=l:=(by rw[hk];rfl);grind [List.drop_take,List.drop_drop,Nat.add_comm]);have CI:=RS aq.kept cH.kept hg;simp only[wB,aC]at hg;let⟨q,hq,hg⟩:=hg;have S0:=FI hT hq;show wpOpsIn (Wr r) 0 E.P ops Q (k::(List.range' (k+1) l.length++rest)) a w;simp only[wpOpsIn,hko];rw[iV]at hg
   cases q with
   | true =>rw[if_pos rfl]at hg;rw[if_pos S0];simp only[bI,aC]at hg;let⟨hv,⟨v,ea⟩,eK,T2,mj,hg⟩:=hg;cases hg;refine Cp hρ aq cH hR hD ((NQ aq.kept cH.kept _ h).off hO) hT (λcg=>?_) eK ?_;rw[iV,if_neg (by rw[beq_true];exact cg)]at hv;exact hD.free (hX id (af _)) (aK.1 hv);intro x w1 F1 μ1 Gv W hf;let⟨p1,p2,p3⟩:=zcB (hf.znh hR hT) cd W mj;refine ih np h (λj hj=>hX j (by omega)) Gv (hf.cx CI.le hD) hO p1 (by rw[p2];exact cd) (by rw[p3];exact hM.bw hR hf) ?_;intro a' w2 F2 μ2 g1 g2 g3 g4 g5;exact hQ a' w2 F2 μ2 g1 g2 (by rw[g3,p2]) g4 (hf.trans g5)
   | false =>
     rw[if_neg (by simp)]at hg;rw[if_neg (by rw[S0];simp)];simp only[aC]at hg;let⟨T2,mj,hg⟩:=hg;cases hg;refine⟨λ_ _=>trivial,?_⟩;let⟨p1,p2,p3⟩:=zcB (v:=oW) (x:=undef) hT cd (.pure (.tuple [] #[] rfl λi v hi=>by simp at hi)) mj;grind
theorem zj8(hρ:Good I){E:Env}(aq:bK I E)(cH:TE I E ev){sz id:Nat}{ops:Array Oper}
 (h:uX E ev sz ops.toList ops.toList C.n T { H:=C.H,n:=C.n+dB ops.toList,log:=C.log }=some (T',a9)) (hR:R I w F μ E.P C) (hD:Py X μ C) (hO:pP X a9) (hT:kR I w F μ T a.tmps) (cd:sz<=a.tmps.size) (hM:Marks N w a.defers)
 (hQ:∀ a' w' F' μ',R I w' F' μ' E.P a9->kR I w' F' μ' T' a'.tmps->a'.tmps.size=a.tmps.size->Marks N w' a'.defers->Fr w F μ C w' F' μ' a9->Q .normal a' w'):(Code.region id ops false).wpIn (Wr r) 0 E.P Q a w:=by
 refine wpIn_region ?_;rw[List.range_eq_range',<- jE,<- fq (List.range' 0 ops.toList.length)];refine ze9 hρ aq cH ops.toList (by rw[sJ,gm]) h hD.2 (hR.zHc _ _) (hD.zHc (fG _ _) _) hO hT cd hM ?_;intro a' w' F' μ' g1 g2 g3 g4 g5;exact hQ a' w' F' μ' g1 g2 g3 g4 ((Fr.zHc w F μ C _ _).trans g5)
end
section
variable (I:Nat->Value)(w:World)(F:Nat->Prop)(μ:Nat->Nat->Y MI)(P:Program)(cN:Nat->Y Obj)
structure RG:Prop where
 lt:∀ id g m,μ id g=some m->m.b<w.heap.size
 BR:∀ b,F b->b<w.heap.size
 obj:∀ id o,cN id=some o->pO I w F μ P id o
 inj:∀ id j9 o o' m m',cN id=some o->cN j9=some o'->μ id o.gen=some m->μ j9 o'.gen=some m'->m.b=m'.b->id=j9
 zL:∀ id o,cN id=some o->∀ g,o.gen<g->μ id g=none
 gl:Gl I w F
end
def QY(cN:Nat->Y Obj)(μ:Nat->Nat->Y MI)(b:Nat):Prop:=∃ id o m,cN id=some o/\o.fz=false/\μ id o.gen=some m/\m.b=b
structure B2(w:World)(F:Nat->Prop)(μ:Nat->Nat->Option MI)(cN:Nat->Option Obj)(w':World)(F':Nat->Prop)(μ':Nat->Nat->Option MI)(G':Nat->Option Obj):Prop where
 io:Io w w'
 size:w.heap.size<=w'.heap.size
 bw:∀ b,b<w.heap.size->¬ QY cN μ b->w'.heap[b]?=w.heap[b]?
 fm:∀ b,F b->F' b
 CQ:∀ b,F' b->F b\/w.heap.size<=b\/QY cN μ b
 mm:∀ id g m,μ id g=some m->μ' id g=some m
 own:∀ b,QY G' μ' b->QY cN μ b\/w.heap.size<=b
 hm:∀ id,cN id≠none->G' id≠none
 sm:∀ id,G' id=none->∀ g,μ' id g=μ id g
 dm:∀ id,cN id≠none->(∀ g,μ id g=none)->∀ g,μ' id g=none
 mn:∀ id g m,μ' id g=some m->w.heap.size<=m.b\/∃ i j m0,μ i j=some m0/\m0.b=m.b
section
variable {I:Nat->Value}{w w'':World}{zHt:Nat->Prop}{μ'':Nat->Nat->Y MI}{zOZ:Nat->Y Obj}
def R.zPa(h:R I w F μ P C):RG I w F μ P C.H.get:=⟨h.lt,h.BR,h.obj,h.inj,h.zL,h.gl⟩
def RG.toR(h:RG I w F μ P cN)(eN:∀ id o,C.H.get id=some o->(∀ g,μ id g=none)\/cN id=some o):R I w F μ P C where
 lt:=h.lt
 BR:=h.BR
 gl:=h.gl
 obj id o ho:=by
  rcases eN id o ho with M|M;cases o<;>(intro m hm;rw[M]at hm;cases hm)
  exact h.obj id o M
 inj id j9 o o' m m' ho im hm eW:=by rcases eN id o ho with M|M;rw[M]at hm;cases hm;rcases eN j9 o' im with O|O;rw[O]at eW;cases eW;exact h.inj id j9 o o' m m' M O hm eW
 zL id o ho g hg:=by
  rcases eN id o ho with M|M;exact M g;exact h.zL id o M g hg
def B2.zKA(h:B2 w F μ C.H.get w' F' μ' a9.H.get):Fr w F μ C w' F' μ' a9:=⟨h.io,h.size,h.bw,h.fm,h.CQ,h.mm,h.own,h.hm,h.sm,h.dm,h.mn⟩
theorem B2.trans(h:B2 w F μ cN w' F' μ' G')(h':B2 w' F' μ' G' w'' zHt μ'' zOZ):B2 w F μ cN w'' zHt μ'' zOZ where
 io:=h.io.trans h'.io
 size:=aO h.size h'.size
 bw b hb hn:=by rw[h'.bw b (cu hb h.size) (λho=>(h.own b ho).elim hn (λrK=>by omega)),h.bw b hb hn]
 fm b hb:=h'.fm b (h.fm b hb)
 CQ b hb:=by rcases h'.CQ b hb with M|M|M;exact h.CQ b M;exact .inr (.inl (aO h.size M));rcases h.own b M with O|O;exact .inr (.inr O);exact .inr (.inl O)
 mm id g m hm:=h'.mm _ _ _ (h.mm _ _ _ hm)
 own b hb:=by rcases h'.own b hb with M|M;exact h.own b M;exact .inr (aO h.size M)
 hm id hi:=h'.hm id (h.hm id hi)
 sm id hi g:=by have cm:G' id=none:=aY λcg=>h'.hm id cg hi;rw[h'.sm id hi g,h.sm id cm g]
 dm id hi hg:=h'.dm id (h.hm id hi) (h.dm id hi hg)
 mn id g m hg:=by
  rcases h'.mn id g m hg with M|⟨i,j,m0,M,O⟩;exact .inl (aO h.size M);rcases h.mn i j m0 M with h3|⟨i',j',m1,h3,h4⟩;exact .inl (O ▸ h3);exact .inr ⟨i',j',m1,h3,h4.trans O⟩
def RG.vg(h:RG I w F μ P cN)(hF:F b):¬ QY cN μ b:=by
 rintro ⟨id,o,m,ho,hf,hm,rfl⟩;have:=h.obj id o ho
 cases o with
 |arr size gen es exact fz row=>exact(this m hm).hn hf hF
 |mp es=>exact(this m hm).hn hF
 |lp fn T ps assign body busy=>exact(this m hm).hn hF
def B2.rep(h:B2 w F μ cN w' F' μ' G')(hR:RG I w F μ P cN)(W:dZ I w F μ v x):dZ I w' F' μ' v x :=
 W.mono I h.fm (λb hb=>h.bw b (hR.BR b hb) (hR.vg hb)) h.mm
def pO.zMB{id:Nat}{o:Obj}(h:pO I w F μ P id o)(hz:o.fz=true){m:MI}(hm:μ id o.gen=some m):F m.b:=by
 cases o with
 |arr size gen es exact fz row=>exact(h m hm).hf hz
 |mp es=>cases hz
 |lp fn T ps assign body busy=>cases hz
theorem RG.merge (h:RG I w F μ P cN) (eN:∀ id o,C.H.get id=some o->(∀ g,μ id g=none)\/cN id=some o) (vf:R I w' F' μ' P a9) (hf:Fr w F μ C w' F' μ' a9)
 (g1:∀ id o,G' id=some o->a9.H.get id=some o\/(cN id=some o/\a9.H.get id=none)) (g2:∀ id,cN id≠none->G' id≠none)
 (g3:∀ id,G' id=none->a9.H.get id=none\/(C.H.get id≠none/\∀ g,μ id g=none))
 (g4:(∀ id o,cN id=some o->a9.H.get id=none->o.fz=false)\/(∀ id o,a9.H.get id=some o->o.fz=false)\/(∀ id o,a9.H.get id=some o->∀ m,μ' id o.gen=some m->∃ o0,C.H.get id=some o0/\μ id o0.gen=some m))
 (g5:∀ id,C.H.get id=none->a9.H.get id≠none->cN id=none):RG I w' F' μ' P G'/\B2 w F μ cN w' F' μ' G':=by
 have hR:=h.toR eN;have qT:∀ b,zS C μ b->QY cN μ b:=by rintro b ⟨id,o,m,ho,hz,hm,rfl⟩;rcases eN id o ho with M|M;rw[M]at hm;cases hm;exact⟨id,o,m,M,hz,hm,rfl⟩
 have ft:∀ id,a9.H.get id=none->C.H.get id=none:=λid hi=>aY λcg=>hf.hm id cg hi;have ly:∀ id o m,cN id=some o->a9.H.get id=none->μ id o.gen=some m->¬ zS C μ m.b:=by rintro id o m ho hi hm ⟨zOe,o2,m2,O,_,kj,he⟩;rcases eN zOe o2 O with h3|h3;rw[h3]at kj;cases kj;have e:=h.inj zOe id o2 o m2 m h3 ho kj hm he;subst e;rw[ft _ hi]at O;cases O
 have zFV : ∀ i j o o' m m',a9.H.get i=some o->cN j=some o'->a9.H.get j=none->μ' i o.gen=some m->μ j o'.gen=some m'->m.b≠m'.b:=by
  intro i j o o' m m' hi hj CM hm eW he;have cG:=h.lt _ _ _ eW;have js:=ly j o' m' hj CM eW
  cases hz:o.fz with
  | false =>rcases hf.own m.b ⟨i,o,m,hi,hz,hm,rfl⟩with M|M;exact js (he ▸ M);omega
  | true =>have hF':F' m.b:=(vf.obj i o hi).zMB hz hm;rcases hf.CQ m.b hF' with M|M|M;rcases g4 with g4|g4|g4;exact h.vg M ⟨j,o',m',hj,g4 j o' hj CM,eW,he.symm⟩;rw[g4 i o hi]at hz;cases hz;let⟨o0,O,h3⟩:=g4 i o hi m hm;rcases eN i o0 O with h4|h4;rw[h4]at h3;cases h3;have:=h.inj i j o0 o' m m' h4 hj h3 eW he;subst this;rw[CM]at hi;cases hi;omega;exact js (he ▸ M)
 refine⟨⟨vf.lt,vf.BR,?_,?_,?_,vf.gl⟩,⟨hf.io,hf.size,λb hb hn=>hf.bw b hb (λho=>hn (qT b ho)),hf.fm,?_,hf.mm,?_,g2,?_,?_,hf.mn⟩⟩;intro id o ho;rcases g1 id o ho with M|⟨M,O⟩;exact vf.obj id o M;have hsm:=hf.sm id O;refine(h.obj id o M).mono hf.fm (λb hb=>hf.bw b (h.BR b hb) (hR.vg hb)) hf.mm (λm hm=>by rw[hsm]at hm;exact hm) (λm hm=>hf.bw _ (h.lt _ _ _ hm) (ly id o m M O hm)) ?_;intro m hm _ hn hF';rcases hf.CQ _ hF' with h3|h3|h3;exact hn h3;have:=h.lt _ _ _ hm;omega;exact ly id o m M O hm h3;intro i j o o' m m' ho im hm eW he;rcases g1 i o ho with M|⟨M,O⟩;rcases g1 j o' im with h3|⟨h3,h4⟩;exact vf.inj i j o o' m m' M h3 hm eW he;rw[hf.sm j h4]at eW;exact absurd he (zFV i j o o' m m' M h3 h4 hm eW);rw[hf.sm i O]at hm;rcases g1 j o' im with h3|⟨h3,h4⟩;exact absurd he.symm (zFV j i o' o m' m h3 M O eW hm);rw[hf.sm j h4]at eW;exact h.inj i j o o' m m' M h3 hm eW he;intro id o ho g hg;rcases g1 id o ho with M|⟨M,O⟩;exact vf.zL id o M g hg;rw[hf.sm id O];exact h.zL id o M g hg;intro b hb;rcases hf.CQ b hb with M|M|M;exact .inl M;exact .inr (.inl M);exact .inr (.inr (qT b M));rintro b ⟨id,o,m,ho,hz,hm,rfl⟩;rcases g1 id o ho with M|⟨M,O⟩;rcases hf.own m.b ⟨id,o,m,M,hz,hm,rfl⟩with h3|h3;exact .inl (qT _ h3);exact .inr h3;rw[hf.sm id O]at hm;exact .inl ⟨id,o,m,M,hz,hm,rfl⟩;intro id hi g;rcases g3 id hi with M|⟨M,O⟩;exact hf.sm id M g;rw[hf.dm id M O g,O g];intro id hi hg g;by_cases M:a9.H.get id=none;rw[hf.sm id M g];exact hg g;by_cases O:C.H.get id=none;exact absurd (g5 id O M) hi;exact hf.dm id O hg g
end
def zvP(m i:Nat):tb m i=m.testBit i:=by
 unfold tb;rw[Nat.testBit_eq_decide_div_mod_eq,dI];simp
theorem zD0{a c:Nat}:tb (Nat.lor (Nat.lor (2 ^ a) b) c) i=true↔i=a\/tb b i=true\/tb c i=true:=by
 have e:Nat.lor (Nat.lor (2 ^ a) b) c=(2 ^ a ||| b) ||| c:=rfl;rw[e];simp only[zvP,Nat.testBit_or,Nat.testBit_two_pow,iQ,decide_eq_true_eq];grind
def zsp(i:Nat):tb 0 i=false:=by rw[zvP];simp
theorem YK{acc:Z Nat}:∀ {l:Z Edge} {m:Nat},V4 i acc l=some m ->
 (∀ e∈l,Region.binds .any e=true->e.on<i)/\∀ j,tb m j=true->∃ e∈l,Region.binds .any e=true/\(j=e.on\/∃ b,acc[e.on]?=some b/\tb b j=true):=by
 intro l
 induction l with
 | nil =>intro m h;cases h;simp[zsp]
 | cons e l ih =>
   intro m h;replace h:(ob (V4 i acc l) λm=>bi (Region.binds .any e) (gd (Nat.blt e.on i) (ob (wu acc e.on) λb=>some (Nat.lor (Nat.lor (2 ^ e.on) b) m))) (some m))=some m:=h;simp only[aC]at h;grind [iV,bI,aC,gz,sP,zD0,List.mem_cons_self,List.mem_cons_of_mem]
theorem zu6:∀ {l:Z Oper} {i:Nat} {acc bs:Z Nat},zAa l i acc=some bs->acc.length=i ->
 bs.length=i+l.length/\(∀ k,k<i->bs[k]?=acc[k]?)/\∀ (k:Nat) (o:Oper),l[k]?=some o->∃ m,bs[i+k]?=some m/\V4 (i+k) (bs.take (i+k)) o.after.toList=some m:=by
 intro l
 induction l with
 | nil =>intro i acc bs h hi;cases h;grind
 | cons o l ih =>
   intro i acc bs h hi;replace h:(ob (V4 i acc o.after.toList) λm=>zAa l (i+1) (kg acc [m]))=some bs:=h;simp only[aC]at h;let⟨m,hm,h⟩:=h;rw[oN]at h;let⟨M,O,h3⟩:=ih h (by simp[hi]);have hold:∀ k,k<i->bs[k]?=acc[k]?:=λk hk=>(by grind);refine⟨by simp[M];omega,hold,λk o' hk=>?_⟩
   cases k with
   | zero =>cases hk;refine⟨m,?_,?_⟩;grind;have:bs.take (i+0)=acc:=(by apply o8;grind);grind
   | succ k =>
     grind
theorem zl9{ops:Z Oper}:∀ {l:Z Oper} {i:Nat},WJ ops m y l i j=true->∀ (k:Nat) (x:Oper),l[k]?=some x->i+k<j->tb m (i+k)=true\/indep ops x y=true:=by
 intro l
 induction l with
 |nil=>intro i _ k x hk;simp at hk
 | cons z l ih =>
   intro i h k x hk cG;replace h:bi (Nat.blt i j) (et (bi (tb m i) true (indep ops z y)) (WJ ops m y l (i+1) j)) true=true:=h;grind [iV,gz,dz]
theorem zed {ops:Z Oper}:∀ {l:Z Oper} {j:Nat} {bs:Z Nat},WL ops l j bs=true->∀ (k:Nat) (y:Oper),l[k]?=some y->∃ m,bs[k]?=some m/\WJ ops m y ops 0 (j+k)=true:=by
 intro l
 induction l with
 |nil=>intro j bs _ k y hk;simp at hk
 | cons z l ih =>
   intro j bs h k y hk
   cases bs with
   |nil=>cases h
   | cons m bs =>
     replace h:et (WJ ops m z ops 0 j) (WL ops l (j+1) bs)=true:=h;rw[dz]at h
     cases k with
     |zero=>cases hk;exact⟨m,rfl,h.1⟩
     | succ k =>
       grind
theorem zfz{l m:Z Nat}(h:meet l m=false):∀ k∈l,k ∉ m:=by
 induction l with
 |nil=>intro k hk;cases hk
 | cons x l ih =>
   intro k hk;replace h:bi (KX x m) true (meet l m)=false:=h;grind [iV,zia]
theorem zlM{r:Z Nat×Z Nat}:∀ {l:Z (Z Nat×Z Nat)} {i:Nat},Ho m r l i j=true->∀ (k:Nat) (q:Z Nat×Z Nat),l[k]?=some q->i+k<j ->
 tb m (i+k)=true\/((∀ t∈q.1,t ∉ r.2)/\(∀ t∈r.1,t ∉ q.2)):=by
 intro l
 induction l with
 |nil=>intro i _ k x hk;simp at hk
 | cons z l ih =>
   intro i h k x hk cG;replace h:bi (Nat.blt i j) (et (bi (tb m i) true (nt (bi (meet z.1 r.2) true (meet r.1 z.2)))) (Ho m r l (i+1) j)) true=true:=h;rw[iV,if_pos (gz.2 (by omega)),dz,iV]at h
   cases k with
   | zero =>grind [jQ,iV,zfz]
   | succ k =>
     grind
theorem zec {all:Z (Z Nat×Z Nat)}:∀ {l:Z (Z Nat×Z Nat)} {j:Nat} {bs:Z Nat},wV all l j bs=true->∀ (k:Nat) (r:Z Nat×Z Nat),l[k]?=some r->∃ m,bs[k]?=some m/\Ho m r all 0 (j+k)=true:=by
 intro l
 induction l with
 |nil=>intro j bs _ k y hk;simp at hk
 | cons z l ih =>
   intro j bs h k y hk
   cases bs with
   |nil=>cases h
   | cons m bs =>
     replace h:et (Ho m z all 0 j) (wV all l (j+1) bs)=true:=h;rw[dz]at h
     cases k with
     |zero=>cases hk;exact⟨m,rfl,h.1⟩
     | succ k =>
       grind
structure Tr(E:Env)(ev:Ev)(sz:Nat)(ops:List Oper)(xM:Nat)(Ts:Nat->PT V)(cf:Nat->HS)(vs:Nat->V)(rs ws:Nat->List Nat)(B:Nat->Nat->Prop):Prop where
 step:∀ (i:Nat) (o:Oper),ops[i]?=some o->lg E ev ops o (xM+i) (iC (Ts i) (looks ops o)) (cf i)=some (vs i,cf (i+1),rs i,ws i)
 put:∀ (i:Nat) (o:Oper),ops[i]?=some o->KV sz (Ts i) o.dst (vs i)=some (Ts (i+1))
 on:∀ (j:Nat) (o:Oper),ops[j]?=some o->∀ e∈o.after.toList,Region.binds .any e=true->e.on<j
 zQU:∀ (j i:Nat) (o:Oper),ops[j]?=some o->B j i->∃ e∈o.after.toList,Region.binds .any e=true/\(i=e.on\/B e.on i)
 apart:∀ (i j:Nat) (x y:Oper),i<j->ops[i]?=some x->ops[j]?=some y->B j i\/indep ops x y=true
 gA:∀ i j,i<j->j<ops.length->B j i\/((∀ t∈rs i,t ∉ ws j)/\(∀ t∈rs j,t ∉ ws i))
def YW(x:α)(f:Nat->α):Nat->α
 | 0=>x
 |i+1=>f i
theorem Xn {E:Env}  {sz:Nat} {ops:Z Oper}:∀ {l:Z Oper} {id:Nat} {T:PT V} {C:HS} {acc:Z (Z Nat×Z Nat)} {r:(PT V×HS)×Z (Z Nat×Z Nat)},
 xc E ev sz ops l id T C acc=some r->∃ (Ts:Nat->PT V) (cf:Nat->HS) (vs:Nat->V) (rs ws:Nat->Z Nat),Ts 0=T/\cf 0=C /\
  (∀ (i:Nat) (o:Oper),l[i]?=some o->lg E ev ops o (id+i) (iC (Ts i) (looks ops o)) (cf i)=some (vs i,cf (i+1),rs i,ws i)) /\
  (∀ (i:Nat) (o:Oper),l[i]?=some o->KV sz (Ts i) o.dst (vs i)=some (Ts (i+1)))/\r.1=(Ts l.length,cf l.length)/\r.2=acc++(List.range l.length).map λi=>(rs i,ws i):=by
 intro l
 induction l with
 | nil =>intro id T C acc r h;cases h;exact⟨λ_=>T,λ_=>C,λ_=>oW,λ_=>[],λ_=>[],rfl,rfl,λi o hi=>by simp at hi,λi o hi=>by simp at hi,rfl,by simp⟩
 | cons o l ih =>
   intro id T C acc r h;replace h:(ob (lg E ev ops o id (iC T (looks ops o)) C) λr=>ob (KV sz T o.dst r.1) λT'=>xc E ev sz ops l (id+1) T' r.2.1 (kg acc [r.2.2]))=some r:=h;simp only[aC]at h;let⟨⟨v,cp,rd,wr⟩,hq,T1,hp,h⟩:=h;rw[oN]at h;let⟨Ts,cf,vs,rs,ws,M,O,h3,h4,h5,h6⟩:=ih h;refine⟨YW T Ts,YW C cf,YW v vs,YW rd rs,YW wr ws,rfl,rfl,?_,?_,h5,?_⟩;intro i o' hi
   cases i with
   | zero =>cases hi;show lg E ev ops o (id+0) (iC T (looks ops o)) C=some (v,cf 0,rd,wr);grind
   | succ i =>have:=h3 i o' (by simpa using hi);rw[show id+1+i=id+(i+1) by omega]at this;exact this
   intro i o' hi
   cases i with
   | zero =>cases hi;show KV sz T o.dst v=some (Ts 0);grind
   |succ i=>exact h4 i o' (by simpa using hi)
   simp_all [fA,List.range_succ_eq_map,Function.comp_def,YW]
theorem zdB{E:Env}{sz:Nat}{l:Z Oper}(h:R4 E ev sz l T C=some (T',a9)) :
 ∃ (Ts:Nat->PT V) (cf:Nat->HS) (vs:Nat->V) (rs ws:Nat->Z Nat) (B:Nat->Nat->Prop),Tr E ev sz l C.n Ts cf vs rs ws B/\Ts 0=T/\cf 0={ H:=C.H,n:=C.n+l.length,log:=C.log }/\Ts l.length=T'/\cf l.length=a9:=by
 simp only[R4,V5,aC,bI]at h;let⟨bs,⟨bs',hb,C2,e⟩,r,hr,ew,h⟩:=h;cases e;let⟨Ts,cf,vs,rs,ws,M,O,h3,h4,h5,h6⟩:=Xn hr;let⟨k1,_,k3⟩:=zu6 hb rfl;have e5:(T',a9)=(Ts l.length,cf l.length):=by rw[<- h5];exact(bT h).symm
 cases e5;refine⟨Ts,cf,vs,rs,ws,λj i=>∃ m,bs[j]?=some m/\tb m i=true,⟨h3,h4,?_,?_,?_,?_⟩,M,by rw[O,dH],rfl,rfl⟩;grind [YK];rintro j i o ho ⟨m,hm,ht⟩;let⟨m',g1,g2⟩:=k3 j o ho;rw[fV]at g1 g2;grind [YK,id];intro i j x y rI W hy;let⟨m,g1,g2⟩:=zed C2 j y hy;rw[fV]at g2;have:=zl9 g2 i x W (by omega);grind;intro i j rI hj;rw[h6,gL]at ew;let⟨m,g1,g2⟩:=zec ew j (rs j,ws j) (by simp[hj]);rw[fV]at g2;have:=zlM g2 i (rs i,ws i) (by rw[bC,List.getElem?_range (by omega)];rfl) (by omega);grind
theorem U0(o:Op):dX o=0\/dX o=1\/dX o=2:=by
 unfold dX;grind
theorem Ox{d:Y Nat}{l:Z Nat}(h:zfZ d l=false):∀ x,d=some x->x ∉ l:=by
 rintro x rfl W;have:KX x l=false:=h;grind [zia]
theorem Ov{ops:Z Oper}{x:Oper}(h:indep ops x y=true):(∀ d,x.dst=some d->d ∉ looks ops y)/\(∀ d,y.dst=some d->d ∉ looks ops x)/\(∀ d,x.dst=some d->y.dst≠some d)/\(dX x.op=2->dX y.op=2->lS x.op=true/\lS y.op=true):=by
 unfold indep at h;rw[dz,dz,dz,jQ,jQ,jQ,jQ]at h;let⟨M,O,h3,h4⟩:=h;refine⟨Ox M,Ox O,λd hd he=>?_,λe1 e2=>?_⟩;rw[hd,he]at h3;have:Nat.beq d d=false:=h3;simp_all;unfold zJ6 at h4;rw[e1,e2]at h4;replace h4:nt (et (lS x.op) (lS y.op))=false:=h4;cases W:lS x.op<;>cases hy:lS y.op<;>rw[W,hy]at h4<;>first|exact⟨rfl,rfl⟩|cases h4
section
variable {E:Env}{sz:Nat}{ops:Z Oper}{xM:Nat}{Ts:Nat->PT V}{cf:Nat->HS}{vs:Nat->V}{rs ws:Nat->Z Nat}{B:Nat->Nat->Prop}
def Mk(ops:Z Oper)(Ts:Nat->PT V)(i:Nat):Prop:=∃ o,ops[i]?=some o/\dX o.op=1/\xQ ops (iC (Ts i) (looks ops o)) o=some true
def W2(ops:Z Oper)(i:Nat):Prop:=∃ o,ops[i]?=some o/\dX o.op=2
def St(ops:Z Oper)(i:Nat):Prop:=∃ o,ops[i]?=some o/\lS o.op=true
theorem yT{id:Nat}{rd wr:Z Nat}(h:lg E ev ops o id T C=some (v,a9,rd,wr)) :
 (xQ ops T o=some false/\v=oW/\a9=C/\rd=[]/\wr=[])\/(xQ ops T o=some true /\
   ((dX o.op=0/\a9=C/\rd=cP T o.op/\wr=[]/\∃ O,cy E ev true T { H:=iC C.H (cP T o.op),n:=0,log:=[] } id o=some (v,O)) \/
    (dX o.op=1/\C.H.get id=none/\rd=[id]/\wr=[]/\∃ O o',cy E ev true T { H:=.leaf,n:=0,log:=[] } id o=some (v,O)/\O.H.get id=some o'/\o'.fz=false/\a9=C.put id o') \/
    (dX o.op=2/\lS o.op=false/\C.H.get id=none/\rd=[]/\∃ O,cy E ev true T { H:=C.H,n:=C.n,log:=[] } id o=some (v,O)/\a9={ H:=O.H,n:=O.n,log:=kg O.log C.log }/\wr=O.log) \/
    (dX o.op=2/\lS o.op=true/\rd=sD T C o.op/\∃ O,cy E ev true T { H:=iC C.H (sD T C o.op),n:=0,log:=[] } id o=some (v,O)/\a9={ H:=Jp C.H O.H (sD T C o.op),n:=C.n,log:=kg O.log C.log }/\wr=O.log))):=by
 simp only[lg,aC]at h;let⟨w,hw,h⟩:=h;rw[iV]at h
 cases w with
 | false =>grind
 | true =>
   rw[if_pos rfl]at h;refine .inr ⟨hw,?_⟩;unfold A9 at h;rw[iV]at h;split at h;rename_i eK;simp only[QC,aC,bI,aK]at h;let⟨_,⟨v1,O⟩,M,h⟩:=h;cases h;let⟨t,a,x,lP⟩:=Ja eK;exact .inr (.inr (.inr ⟨by rw[lP];rfl,eK,rfl,O,M,rfl,rfl⟩));rename_i sT;have sT:lS o.op=false:=(by simpa using sT);unfold Aw at h;rcases U0 o.op with hc|hc|hc;rw[hc]at h;replace h:(ob (cy E ev true T { H:=iC C.H (cP T o.op),n:=0,log:=[] } id o) λr=>some (r.1,C,cP T o.op,[]))=some (v,a9,rd,wr):=h;grind [aC];rw[hc]at h;replace h:(gd (gW C id) (ob (cy E ev true T { H:=.leaf,n:=0,log:=[] } id o) λr=>ob (r.2.H.get id) λo'=>gd (nt o'.fz) (some (r.1,C.put id o',[id],[]))))=some (v,a9,rd,wr):=h;grind [aC,bI,aK,jQ];rw[hc]at h;replace h:(gd (gW C id) (ob (cy E ev true T { H:=C.H,n:=C.n,log:=[] } id o) λr=>some (r.1,{ H:=r.2.H,n:=r.2.n,log:=kg r.2.log C.log },[],r.2.log)))=some (v,a9,rd,wr):=h;simp only[aC,bI,aK]at h;let⟨hv,⟨v1,O⟩,M,h⟩:=h;cases h;exact .inr (.inr (.inl ⟨hc,sT,hv,rfl,O,M,rfl,rfl⟩))
variable (aq:qz E)(cH:rP ev)(tr:Tr E ev sz ops xM Ts cf vs rs ws B)
include aq cH tr
def Tr.kept(ho:ops[i]?=some o):Kept (cf i) (cf (i+1))/\∀ k o',(cf i).H.get k=some o'->k ∉ ws i->(cf (i+1)).H.get k=some o' :=
 LD aq cH (tr.step i o ho)
omit aq cH in
theorem Tr.same(hi:i<ops.length)(hw:¬ W2 ops i)(hk:Mk ops Ts i->k≠xM+i):(cf (i+1)).H.get k=(cf i).H.get k:=by
 have ho:ops[i]?=some ops[i]:=az hi;rcases yT (tr.step i _ ho)with⟨_,_,e,_⟩|⟨h0,⟨_,e,_⟩|⟨M,_,_,_,O,o',_,_,_,e⟩|⟨M,_⟩|⟨M,_⟩⟩;rw[e];rw[e];rw[e,mJ,if_neg (hk ⟨_,ho,M,h0⟩)];exact absurd ⟨_,ho,M⟩ hw;exact absurd ⟨_,ho,M⟩ hw
omit aq cH in
theorem Tr.made(hm:Mk ops Ts i):i<ops.length/\¬ W2 ops i/\(cf i).H.get (xM+i)=none/\(∃ o',(cf (i+1)).H.get (xM+i)=some o'/\o'.fz=false)/\rs i=[xM+i]:=by
 let⟨o,ho,hc,hw⟩:=hm;have hn:¬ W2 ops i:=by rintro ⟨o2,z9,O⟩;rw[ho]at z9;cases z9;rw[hc]at O;cases O
 rcases yT (tr.step i _ ho)with⟨h0,_⟩|⟨h0,⟨M,_⟩|⟨M,h3,h4,_,O,o',_,_,hz,e⟩|⟨M,_⟩|⟨M,_⟩⟩;rw[hw]at h0;cases h0;rw[hc]at M;cases M;exact⟨(aM.1 ho).1,hn,h3,⟨o',by rw[e,mJ,if_pos rfl],hz⟩,h4⟩;exact absurd ⟨o,ho,M⟩ hn;exact absurd ⟨o,ho,M⟩ hn
theorem Tr.xR(rI:i<=j)(hj:j<=ops.length)(h:(cf i).H.get k≠none):(cf j).H.get k≠none:=by
 induction rI with
 |refl=>exact h
 | @step j rI ih =>
   replace rI:i<=j:=rI;exact(tr.kept aq cH (az hj)).1.hm k (ih (by omega))
def Tr.Ae(rI:i<=j)(hj:j<=ops.length)(h:(cf j).H.get k=none):(cf i).H.get k=none :=
 aY λcg=>tr.xR aq cH rI hj cg h
theorem Tr.zLm(hi:i<=ops.length):(cf 0).n<=(cf i).n:=by
 induction i with
 |zero=>exact af _
 |succ i ih=>exact aO (ih (by omega)) (tr.kept aq cH (az hi)).1.le
omit aq cH in
theorem Tr.zbW(HG:m<=k)(hk:k<=ops.length)(h:∀ i o,m<=i->i<k->ops[i]?=some o->o.dst≠some t):(Ts k).get t=(Ts m).get t:=by
 induction HG with
 |refl=>rfl
 | @step k HG ih =>
   replace HG:m<=k:=HG;rw[<- ih (by omega) λi o M O=>h i o M (by omega)];have ho:ops[k]?=some ops[k]:=az hk;have hp:=tr.put k _ ho;have cg:=h k _ HG (by omega) ho;unfold KV at hp
   cases hd:ops[k].dst with
   |none=>rw[hd,Bi]at hp;rw[<- bT hp]
   | some d =>
     rw[hd,kX]at hp;simp only[bI]at hp;rw[<- bT hp.2,PT.cZ,if_neg];grind
omit aq cH in
theorem Tr.zso(ho:ops[j]?=some o)(hd:o.dst=some t):(Ts (j+1)).get t=some (vs j)/\t<sz:=by
 have hp:=tr.put j o ho;unfold KV at hp;rw[hd,kX]at hp;simp only[bI,gz]at hp;rw[<- bT hp.2,PT.cZ,if_pos rfl];grind
end
def Q5(cf:Nat->HS)(i id:Nat):Prop:=(cf (i+1)).H.get id≠(cf i).H.get id
open Classical in
def Gk(cf:Nat->HS)(S:Nat->Prop):Nat->Nat->Y Obj
 | 0,id=>(cf 0).H.get id
 |i+1,id=>if S i/\Q5 cf i id then (cf (i+1)).H.get id else Gk cf S i id
section
variable {cf:Nat->HS}{S':Nat->Prop}{id:Nat}
theorem zja(h:∀ i,i<j->Q5 cf i id->S i):Gk cf S j id=(cf j).H.get id:=by
 induction j with
 |zero=>rfl
 | succ j ih =>
   unfold Gk;split;rfl;rename_i hn;rw[ih λi hi hc=>h i (by omega) hc];refine aY λcg=>hn ?_;have hc:Q5 cf j id:=λe=>cg e.symm;exact⟨h j (by omega) hc,hc⟩
theorem EX(xo:j<=k)(h:∀ i,j<=i->i<k->Q5 cf i id->¬ S i):Gk cf S k id=Gk cf S j id:=by
 induction xo with
 |refl=>rfl
 | @step k xo ih =>
   replace xo:j<=k:=xo;have e:Gk cf S (k+1) id=Gk cf S k id:=(by rw[Gk,if_neg λhc=>h k xo (by omega) hc.2 hc.1]);rw[e];exact ih λi M O=>h i M (by omega)
def zqV(h:∀ i,i<k->Q5 cf i id->(S i↔S' i)):Gk cf S k id=Gk cf S' k id:=by
 induction k with
 |zero=>rfl
 | succ k ih =>
   unfold Gk;have:=ih λi hi=>h i (by omega);by_cases hc:Q5 cf k id;by_cases C:S k;rw[if_pos ⟨C,hc⟩,if_pos ⟨(h k (by omega) hc).1 C,hc⟩];rw[if_neg λh=>C h.1,if_neg λh'=>C ((h k (by omega) hc).2 h'.1),this];rw[if_neg λh=>hc h.2,if_neg λh=>hc h.2,this]
theorem zAu(xo:j<k)(hS:¬ S j)(h:Q5 cf j id->∀ i,j<i->i<k->S i->¬ Q5 cf i id)(hc:Q5 cf j id):Gk cf (λi=>S i\/i=j) k id=(cf (j+1)).H.get id:=by
 rw[EX (j:=j+1) xo λi M O h3 h4=>?_];unfold Gk;rw[if_pos ⟨.inr rfl,hc⟩];rcases h4 with h4|h4;exact h hc i (by omega) O h4 h3;omega
def EY(hc:¬ Q5 cf j id):Gk cf (λi=>S i\/i=j) k id=Gk cf S k id:=by
 refine zqV λi _ hi=>⟨λh=>h.elim (λh=>h) λe=>absurd (e ▸ hi) hc,.inl⟩
end
theorem B2.cx{w:World}{X:Nat->Prop}(h:B2 w F μ cN w' F' μ' G')(hd:∀ id g,μ id g≠none->cN id≠none\/X id) :
 ∀ id g,μ' id g≠none->G' id≠none\/X id:=by
 intro id g hg;by_cases hn:G' id=none;rw[h.sm id hn g]at hg;rcases hd id g hg with M|M;exact absurd hn (h.hm id M);exact .inr M;exact .inl hn
section
variable {E:Env}{sz:Nat}{ops:Z Oper}{xM:Nat}{Ts:Nat->PT V}{cf:Nat->HS}{vs:Nat->V}{rs ws:Nat->Z Nat}{B:Nat->Nat->Prop}
variable (aq:qz E)(cH:rP ev)(tr:Tr E ev sz ops xM Ts cf vs rs ws B)
include aq cH tr
theorem Tr.vE{id:Nat}(ht:t<ops.length)(hc:Q5 cf t id):(Mk ops Ts t/\id=xM+t)\/W2 ops t:=by
 by_cases hw:W2 ops t;exact .inr hw;left;refine aY λhn=>hc (tr.same ht hw λhm e=>hn ⟨hm,e⟩)
theorem Tr.KJ{id:Nat}(ht:t<ops.length)(hc:Q5 cf t id):(cf t).H.get id=none\/id∈ws t:=by
 have ho:ops[t]?=some ops[t]:=az ht
 cases hg:(cf t).H.get id with
 |none=>exact .inl rfl
 | some o =>
   right;refine aY λhn=>hc ?_;rw[hg];exact(tr.kept aq cH ho).2 id o hg hn
theorem Tr.D6{id:Nat}(ht:t<ops.length)(hc:Q5 cf t id):(cf (t+1)).H.get id≠none:=by
 intro hn;have ho:ops[t]?=some ops[t]:=az ht;refine hc ?_;rw[hn];exact(aY λcg=>(tr.kept aq cH ho).1.hm id (λe=>cg e.symm) hn)
theorem Tr.zb4(C:St ops t){id:Nat}(hc:Q5 cf t id):(cf t).H.get id≠none/\id∈rs t/\id∈ws t:=by
 let⟨o,ho,eK⟩:=C;have ht:=(aM.1 ho).1;have nh:=tr.step t o ho;let⟨ty,a,x,lP⟩:=Ja eK;have cg:(cf t).H.get id≠none:=by intro hn;have M:=nh;unfold lg at M;simp only[aC]at M;let⟨w,_,M⟩:=M;rw[iV]at M;split at M;unfold A9 at M;rw[eK,iR]at M;have:=(R3 aq cH eK M).2.2 id hn;exact hc (by rw[hn];exact this);have e:cf t=cf (t+1):=congrArg (λq=>q.2.1) (bT M);exact hc (by rw[<- e])
 refine⟨cg,?_,(tr.KJ aq cH ht hc).resolve_left cg⟩;rcases yT nh with⟨_,_,e,_⟩|⟨_,⟨M,_⟩|⟨M,_⟩|⟨_,M,_⟩|⟨_,_,M,O,_,h3,_⟩⟩;exact absurd (by rw[e]) hc;rw[lP]at M;cases M;rw[lP]at M;cases M;rw[eK]at M;cases M;refine aY λhn=>hc ?_;rw[h3];show (Jp (cf t).H O.H _).get id=_;rw[Jo,if_neg λh=>hn (by rw[M];exact h.1)]
omit aq cH in
theorem Tr.ord(rI:i<j)(hi:W2 ops i)(hj:W2 ops j)(C:¬ (St ops i/\St ops j)):B j i:=by
 let⟨x,W,hx2⟩:=hi;let⟨y,hy,hy2⟩:=hj;rcases tr.apart i j x y rI W hy with h|h;exact h;have:=(Ov h).2.2.2 hx2 hy2;exact absurd ⟨⟨x,W,this.1⟩,⟨y,hy,this.2⟩⟩ C
section
variable (hj:j<ops.length)(hS:¬ S j)(Ik:∀ i k,S k->B k i->S i)
include hj hS Ik
theorem Tr.zta{id:Nat}(hc:Q5 cf j id):∀ t,j<t->t<ops.length->S t->¬ Q5 cf t id:=by
 intro t hjt ht G1 lz;have ot:¬ B t j:=λh=>hS (Ik j t G1 h);have oS:(cf t).H.get id≠none:=tr.xR aq cH (i:=j+1) hjt (dG ht) (tr.D6 aq cH hj hc);have ew:=(tr.gA j t hjt ht).resolve_left ot;have hws:=(tr.KJ aq cH ht lz).resolve_left oS;rcases tr.vE aq cH ht lz with⟨hm,rfl⟩|hw;exact oS (tr.made hm).2.2.1;rcases tr.vE aq cH hj hc with⟨hm,rfl⟩|zP1;exact ew.1 _ (by rw[(tr.made hm).2.2.2.2];simp) hws;by_cases eK:St ops j;exact ew.1 _ (tr.zb4 aq cH eK hc).2.1 hws;exact ot (tr.ord hjt zP1 hw λh=>eK h.1)
def Tr.done{id:Nat}(hc:Q5 cf j id):Gk cf (λi=>S i\/i=j) ops.length id=(cf (j+1)).H.get id :=
 zAu hj hS (λhc i M O h3=>tr.zta aq cH hj hS Ik hc i M O h3) hc
theorem Tr.notYet(hm:Mk ops Ts i)(IF:¬ S i):Gk cf S ops.length (xM+i)=none:=by
 have Pe:=tr.made hm;rw[EX (j:=0) (aZ _) λu _ hu zBZ zGj=>?_];exact tr.Ae aq cH (aZ i) (dG Pe.1) Pe.2.2.1;have zP8:u≠i:=λe=>IF (e ▸ zGj);rcases oK zP8 with h|h;exact tr.D6 aq cH hu zBZ (tr.Ae aq cH (i:=u+1) (j:=i) h (dG Pe.1) Pe.2.2.1);let⟨o',im,_⟩:=Pe.2.2.2.1;have oS:(cf u).H.get (xM+i)≠none:=tr.xR aq cH (i:=i+1) h (dG hu) (by rw[im];simp);have hws:=(tr.KJ aq cH hu zBZ).resolve_left oS;rcases tr.gA i u h hu with M|M;exact IF (Ik i u zGj M);exact M.1 _ (by rw[Pe.2.2.2.2];simp) hws
variable (hB:∀ i,B j i->S i)
include hB
theorem Tr.reads {id:Nat} {o o1:Obj} (hr:id∈rs j) (hg:(cf j).H.get id=some o) (hG:Gk cf S ops.length id=some o1):o1=o:=by
 have hA : ∀ t,t<j->Q5 cf t id->S t:=by
  intro t htj hc;refine aY λG1=>?_;have ht:t<ops.length:=by omega
  have ot:¬ B j t:=λh=>G1 (hB t h);have ew:=(tr.gA t j htj hj).resolve_left ot;have ft:(cf t).H.get id=none:=(tr.KJ aq cH ht hc).resolve_right (ew.2 id hr);have zyW:=tr.D6 aq cH ht hc;have : Gk cf S ops.length id=none:=by rw[EX (j:=0) (aZ _) λu _ hu zBZ zGj=>?_];exact tr.Ae aq cH (aZ t) (dG ht) ft;have hut:u≠t:=λe=>G1 (e ▸ zGj);rcases oK hut with h|h;exact tr.D6 aq cH hu zBZ (tr.Ae aq cH (i:=u+1) (j:=t) h (dG ht) ft);have oS:(cf u).H.get id≠none:=tr.xR aq cH (i:=t+1) h (dG hu) zyW;have hws:=(tr.KJ aq cH hu zBZ).resolve_left oS;rcases tr.vE aq cH ht hc with⟨hm,rfl⟩|hw;rcases tr.gA t u h hu with M|M;grind;exact M.1 _ (by rw[(tr.made hm).2.2.2.2];simp) hws;by_cases eK:St ops t;exact(tr.zb4 aq cH eK hc).1 ft;rcases tr.vE aq cH hu zBZ with⟨hm,rfl⟩|W6;exact oS (tr.made hm).2.2.1;exact G1 (Ik t u zGj (tr.ord h hw W6 λh=>eK h.1))
  grind
 have hZ:∀ t,j<=t->t<ops.length->Q5 cf t id->¬ S t:=by intro t M ht hc G1;have hjt:j≠t:=λe=>hS (e ▸ G1);have ot:¬ B t j:=λh=>hS (Ik j t G1 h);have ew:=(tr.gA j t (by omega) ht).resolve_left ot;have oS:(cf t).H.get id≠none:=tr.xR aq cH (i:=j) M (dG ht) (by rw[hg];simp);exact ew.1 id hr ((tr.KJ aq cH ht hc).resolve_left oS)
 rw[EX (dG hj) hZ,zja hA,hg]at hG;grind
variable (hw:W2 ops j)(sT:¬ St ops j)
include hw sT
theorem Tr.before(ht:t<j)(h:W2 ops t):S t:=hB t (tr.ord ht h hw λh=>sT h.2)
theorem Tr.after(hjt:j<=t)(ht:t<ops.length)(h:W2 ops t):¬ S t:=by
 intro G1;by_cases e:j=t;grind;exact hS (Ik j t G1 (tr.ord (by omega) hw h λh=>sT h.1))
theorem Tr.zAz{id:Nat}(h:∀ i,Mk ops Ts i->id≠xM+i):Gk cf S ops.length id=(cf j).H.get id:=by
 rw[EX (dG hj) λt M ht hc=>?_,zja λt ht hc=>?_];rcases tr.vE aq cH (by omega) hc with⟨hm,e⟩|Ok;grind;exact tr.before aq cH hj hS Ik hB hw sT ht Ok;rcases tr.vE aq cH ht hc with⟨hm,e⟩|Ok;grind;exact tr.after aq cH hj hS Ik hB hw sT M ht Ok
theorem Tr.zNm(_hm:Mk ops Ts i)(C:S i)(rI:i<j):Gk cf S ops.length (xM+i)=(cf j).H.get (xM+i):=by
 rw[EX (dG hj) λt M ht hc=>?_,zja λt ht hc=>?_];rcases tr.vE aq cH (by omega) hc with⟨hm,e⟩|Ok;grind;exact tr.before aq cH hj hS Ik hB hw sT ht Ok;rcases tr.vE aq cH ht hc with⟨hm,e⟩|Ok;omega;exact tr.after aq cH hj hS Ik hB hw sT M ht Ok
theorem Tr.zNn(hm:Mk ops Ts i)(C:S i)(rI:j<=i):Gk cf S ops.length (xM+i)=(cf (i+1)).H.get (xM+i):=by
 have Pe:=tr.made hm;rw[EX (j:=i+1) Pe.1 λt M ht hc=>?_];unfold Gk;rw[if_pos];refine⟨C,?_⟩;let⟨o',im,_⟩:=Pe.2.2.2.1;show _≠_;grind;rcases tr.vE aq cH ht hc with⟨_,e⟩|Ok;omega;exact tr.after aq cH hj hS Ik hB hw sT (by omega) ht Ok
end
end
theorem JG(xM:Nat)(cI:Nat->Prop)(id:Nat):(∃ i,cI i/\id=xM+i)\/∀ i,cI i->id≠xM+i:=by
 grind
section
variable {I:Nat->Value}{w:World}
theorem zdR(hR:R I w F μ P C)(hT:kR I w F μ T a.tmps){id:Nat}{b:Builtin}(hb:b=.len\/b=.min\/b=.max){cs:Array Bool}{xs:Array Operand}
 (fy:kG T xs.toList=some vs) (h:qO P C id b ts.toList vs=some (v,a9)):Zj I P w F μ (builtin b ts tR cs (xs.map a.eval)) v:=by
 unfold qO at h;split at h;unfold JC at h;simp only[aC,zaa]at h;obtain⟨i,hi,x,rfl,n,hn,h⟩:=h;cases h;let⟨X,hX,hr⟩:=J7 hT fy;rw[hX]
 cases xa:ts.toList with
 |nil=>rw[xa]at hi;cases hi
 | cons t l =>rw[xa]at hi;have e:ts=(t::l).toArray:=(by rw[<- xa]);rw[e];exact(zoS hR hi hr hn).next
 grind;grind;unfold vz at h;simp only[aC,Kn,V.fp]at h;obtain⟨p,rfl,q,M,r,O,h⟩:=h;cases h;let⟨X,kq,hX,hr,C⟩:=Gi hT fy;rw[M]at hr;rw[O]at C;rw[hX,hr.lT,C.lT];exact yc.next (Ku true ts tR);unfold vz at h;simp only[aC,Kn,V.fp]at h;obtain⟨p,rfl,q,M,r,O,h⟩:=h;cases h;let⟨X,kq,hX,hr,C⟩:=Gi hT fy;rw[M]at hr;rw[O]at C;rw[hX,hr.lT,C.lT];exact yc.next (Ku false ts tR);cases h
theorem znC (hρ:Good I) {E:Env}  (hR:R I w F μ E.P C)  (hT:kR I w F μ T a.tmps)   {id:Nat}  (hc:dX o.op=0)
 (h:cy E ev dr T C id o=some (v,a9)):(∀ c,o.op≠.defer c)/\Zj I E.P w F μ (execOp a.eval o) v:=by
 unfold cy at h
 cases ey:qN o.op with
 | none =>rw[ey]at h;replace h:UZ E.P dr T C id (WY o.op)=some (v,a9):=h;exact⟨λc hd=>(by rw[hd]at h;cases h),(zoo hρ hR hT hc ey h).2⟩
 | some c =>
   have ho:=Sn ey;rw[ey]at h;replace h:wL E ev T C id c=some (v,a9):=h;simp only[wL,aC]at h;let⟨vs,fy,h⟩:=h;refine⟨λc' h'=>(by rw[ho]at h';cases h'),?_⟩;rw[ho]at hc
   cases Sh:c.callee with
   | builtin b =>
     rw[Sh]at h;replace h:qO E.P C id b c.argTypes.toList vs=some (v,a9):=h
     obtain⟨cs,he⟩:∃ cs,execOp a.eval o=builtin b c.argTypes o.type cs (c.args.map a.eval) :=
      ⟨c.args.map λx=>match x with|.const _=>true|_=>false,by simp only[execOp,ho,resolve,Sh,invoke];rfl⟩
     grind [zdR,dX]
   |value x=>simp[dX,Sh]at hc
   |invoke x n=>simp[dX,Sh]at hc
def znB(hρ:Good I){E:Env}(hR:R I w F μ E.P C)(hT:kR I w F μ T a.tmps){id:Nat}(hc:lS o.op=true)
 (h:cy E ev dr T C id o=some (v,a9)):(∀ c,o.op≠.defer c)/\v=oW/\∃ w' F',(execOp a.eval o).run E.P w=.ok .skip w'/\R I w' F' μ E.P a9/\Fr w F μ C w' F' μ a9:=by
 let⟨t,x,y,lP⟩:=Ja hc;rw[Be lP]at h;simp only[nL,aC]at h;let⟨i,hi,p,hp,u,hu,cp,M,h⟩:=h;cases h;let⟨w',F',O,h3,h4⟩:=zb5 hρ hR hi (dM hT hp) (dM hT hu) M;cases o;dsimp only at lP;subst lP;refine⟨λc hd=>(by cases hd),rfl,w',F',?_,h3,h4⟩;show (do Instr.storeAt t (a.eval x) (a.eval y);pure Next.skip:Sem Next).run E.P w=_;simp[O]
theorem zfd {v':V}  (h:nE v C=some (v',a9))  {o:Obj} (hk:a9.H.get k=some o):∃ o0,C.H.get k=some o0/\o0.gen=o.gen:=by
 have hr:∀ (C:HS) (i k:Nat) (o:Obj),(iO C i).H.get k=some o->∃ o0,C.H.get k=some o0/\o0.gen=o.gen:=by
  intro C i k o hk;unfold iO at hk
  cases ho:C.H.get i with
  |none=>rw[ho,Bi]at hk;exact⟨o,hk,rfl⟩
  | some q =>
    rw[ho,kX]at hk
    cases q with
    | arr a b c d e f =>replace hk:(C.H.set i (.arr a b c d true f)).get k=some o:=hk;rw[PT.cZ]at hk;split at hk;rename_i e;cases hk;subst e;exact⟨_,ho,rfl⟩;grind
    |mp _=>exact⟨o,hk,rfl⟩
    |lp _ _ _ _ _ _=>exact⟨o,hk,rfl⟩
 have M:∀ (C:HS) (v:V) (k:Nat) (o:Obj),(nU C v).H.get k=some o->∃ o0,C.H.get k=some o0/\o0.gen=o.gen:=by intro C v k o hk;unfold nU at hk;grind
 simp only[nE,aC]at h;let⟨u,_,h⟩:=h;cases h;generalize v.cells=l at hk
 induction l generalizing o with
 |nil=>exact⟨o,hk,rfl⟩
 | cons c l ih =>
   let⟨o1,O,h3⟩:=M _ _ _ _ hk;let⟨o0,h4,h5⟩:=ih O;grind
theorem XQ{E:Env}{id:Nat}(hc:lS o.op=true)(h:cy E ev dr T C id o=some (v,a9)){q:Obj}(hk:a9.H.get k=some q):∃ o0,C.H.get k=some o0/\o0.gen=q.gen:=by
 have hr:∀ {i:TI} {id g off:Nat} {v:V} {C a9:HS} {q:Obj},qG i id g off v C=some a9->a9.H.get k=some q->∃ o0,C.H.get k=some o0/\o0.gen=q.gen:=by intro i id g off v C a9 q h hk;simp only[qG,aC,bI]at h;let⟨a,ha,_,_,e,he,h⟩:=h;cases h;replace hk:(C.H.set id (.arr a.1 g (Xm a.2.1 (off / a.1) (kF e (off % a.1) v.cells)) a.2.2.1 false a.2.2.2.2)).get k=some q:=hk;rw[PT.cZ]at hk;split at hk;rename_i e;cases hk;subst e;let⟨M,_⟩:=qZ ha;exact⟨_,M,rfl⟩;grind
 let⟨t,x,y,lP⟩:=Ja hc;rw[Be lP]at h;simp only[nL,aC]at h;let⟨i,_,p,_,u,_,M,O,h⟩:=h;cases h;unfold E9 at O;grind [iV,aC,zfd]
theorem zkn{e:TI}{len:Nat}:∀ {l:Z (Nat×Operand)} {C:HS} {es:Z (Z V)} {r:Z (Z V)×HS},Aa true T e len l C es=some r->r.2=C:=by
 intro l
 induction l with
 |nil=>intro C es r h;cases h;rfl
 | cons p l ih =>
   intro C es r h;replace h:(ob (bU T p.2) λv=>ob (D5 true v C) λr=>gd (et (Nat.beq (dB r.1.cells) e.size) (Nat.blt p.1 len)) (Aa true T e len l r.2 (Xm es p.1 r.1.cells)))=some r:=h;simp only[aC,bI]at h;let⟨v,_,q,hq,_,h⟩:=h;replace hq:gd v.pure (some (v,C))=some q:=hq;grind [bI]
def zom{o:Op}(hc:dX o=1)(ey:qN o=none){id:Nat}(h:UZ P true T C id (WY o)=some (v,a9)):∃ o',∀ k,a9.H.get k=if k=id then some o' else C.H.get k:=by
 cases o<;>first|(cases hc;done)|(cases ey;done)|(cases h;done)|skip
 case alloc t =>
  replace h:Cc P C id t=some (v,a9):=h;simp only[Cc,aC,bI]at h;let⟨_,_,_,h⟩:=h;cases h;exact⟨_,λk=>mJ ..⟩
 case box t x =>
  replace h:XC T C id x=some (v,a9):=h;simp only[XC,aC]at h;let⟨_,_,h⟩:=h;cases h;exact⟨_,λk=>mJ ..⟩
 case buildSlice t n parts =>
  replace h:jU P true T C id t n parts=some (v,a9):=h;simp only[jU,aC,bI]at h;let⟨_,_,_,_,_,_,_,r,hr,h⟩:=h;cases h;rw[zkn hr];exact⟨_,λk=>mJ ..⟩
 case makeMap t r =>
  replace h:Bo C id r=some (v,a9):=h;simp only[Bo,bI]at h;let⟨_,h⟩:=h;cases h;exact⟨_,λk=>mJ ..⟩
 case makeSlice t l c =>
  replace h:mK P T C id t l c=some (v,a9):=h;simp only[mK,xK,aC,bI]at h;let⟨_,_,_,_,_,_,_,_,_,_,_,_,_,_,_,h⟩:=h
  first
   |(cases h;exact⟨_,λk=>mJ ..⟩)
   |(let⟨_,h⟩:=h;cases h;exact⟨_,λk=>mJ ..⟩)
   |(let⟨_,_,h⟩:=h;cases h;exact⟨_,λk=>mJ ..⟩)
   |(let⟨_,_,_,h⟩:=h;cases h;exact⟨_,λk=>mJ ..⟩)
theorem Sj{o:Op}(hc:dX o=1):qN o=none:=by
 cases o<;>first|rfl|skip
 grind [dX]
end
section
variable {I:Nat->Value}{E:Env}{sz:Nat}{ops:Array Oper}{xM:Nat}{Ts:Nat->PT V}{cf:Nat->HS}{vs:Nat->V}{rs ws:Nat->Z Nat}{B:Nat->Nat->Prop}{X:Nat->Prop}{N:NB}
 {w0:World} {F0:Nat->Prop} {μ0:Nat->Nat->Y MI} {G0:Nat->Y Obj} {AN:Nat}
variable (I E ops Ts cf B X N w0 F0 μ0 G0 AN) in
structure Inv(S:Nat->Prop)(a:Act)(w:World)(F:Nat->Prop)(μ:Nat->Nat->Option MI):Prop where
 down:∀ i k,S k->B k i->S i
 rg:RG I w F μ E.P (Gk cf S ops.toList.length)
 fr:B2 w0 F0 μ0 G0 w F μ (Gk cf S ops.toList.length)
 cx:∀ id g,μ id g≠none->Gk cf S ops.toList.length id≠none\/X id
 tmp:∀ t k v,k<=ops.toList.length->(∀ i o,i<k->ops.toList[i]?=some o->o.dst=some t->S i)->(∀ i o,k<=i->ops.toList[i]?=some o->o.dst=some t->¬ S i) ->
  (Ts k).get t=some v->∃ x,a.tmps[t]?=some x/\dZ I w F μ v x
 size:a.tmps.size=AN
 marks:Marks N w a.defers
theorem Inv.zxB(tr:Tr E ev sz ops.toList xM Ts cf vs rs ws B){w:World}(inv:Inv I E ops Ts cf B X N w0 F0 μ0 G0 AN S a w F μ)
   (ho:ops.toList[j]?=some o) (hS:¬ S j) (hB:∀ i,B j i->S i):kR I w F μ (iC (Ts j) (looks ops.toList o)) a.tmps:=by
 intro t v hv;let⟨ht,hv⟩:=Ms hv;refine inv.tmp t j v (dG (aM.1 ho).1) (λi x hi W hd=>?_) (λi x hi W hd IF=>?_) hv;rcases tr.apart i j x o hi W ho with h|h;exact hB i h;exact absurd ht ((Ov h).1 t hd);have cg:i≠j:=λe=>hS (e ▸ IF);rcases tr.apart j i o x (by omega) ho W with h|h;exact hS (inv.down j i IF h);exact(Ov h).2.1 t hd ht
theorem NA (tr:Tr E ev sz ops.toList xM Ts cf vs rs ws B)   {w:World}   (inv:Inv I E ops Ts cf B X N w0 F0 μ0 G0 AN S a w F μ) (cd:sz<=AN)
 (kf:∀ v x,dZ I w F μ v x->dZ I w' F' μ' v x)   (ho:ops.toList[j]?=some o) (hS:¬ S j) (hB:∀ i,B j i->S i)  (W:dZ I w' F' μ' (vs j) x) :
 ∀ t k v,k<=ops.toList.length->(∀ i o,i<k->ops.toList[i]?=some o->o.dst=some t->S i\/i=j)->(∀ i o,k<=i->ops.toList[i]?=some o->o.dst=some t->¬ (S i\/i=j)) ->
 (Ts k).get t=some v->∃ y,(a.put o.dst x).tmps[t]?=some y/\dZ I w' F' μ' v y:=by
 intro t k v hk M O hv;by_cases hd:o.dst=some t;have xo:j<k:=jN λhle=>O j o hle ho hd (.inr rfl)
 have hx:=tr.zbW (m:=j+1) xo hk (t:=t) (λi y hi hik hy hdy=>by
  rcases tr.apart j i o y (by omega) ho hy with h|h;rcases M i y hik hy hdy with h3|h3;exact hS (inv.down j i h3 h);omega
  exact(Ov h).2.2.1 t hd hdy)
 let⟨aE,cG⟩:=tr.zso ho hd;rw[hx,aE]at hv;cases hv;refine⟨x,?_,W⟩;rw[hd];have:t<a.tmps.size:=cu cG (aO cd (Nat.le_of_eq inv.size.symm));simp[Act.put,this]
 let⟨y,hy,hr⟩:=inv.tmp t k v hk (λi x' hi u3 Ax=>(M i x' hi u3 Ax).resolve_right (λe=>hd (by subst e;rw[ho]at u3;cases u3;exact Ax)))
  (λi x' hi u3 Ax h3=>O i x' hi u3 Ax (.inl h3)) hv
 refine⟨y,?_,kf _ _ hr⟩
 cases jz:o.dst with
 |none=>exact hy
 | some d =>
   have cg:d≠t:=λe=>hd (by rw[jz,e]);simpa [Act.put,Array.getElem?_setIfInBounds,cg]using hy
theorem Inv.step (hρ:Good I) (aq:bK I E) (cH:TE I E ev) (tr:Tr E ev sz ops.toList xM Ts cf vs rs ws B) (hX:∀ i,xM<=i->¬ X i) (hn:xM+ops.toList.length<=(cf 0).n) (hO:pP X (cf ops.toList.length)) (cd:sz<=AN)
 {r:Y Nat} {S:Nat->Prop} {a:Act} {w:World} {F:Nat->Prop} {μ:Nat->Nat->Y MI} (inv:Inv I E ops Ts cf B X N w0 F0 μ0 G0 AN S a w F μ)
 {j:Nat} (hj:j<ops.toList.length) (hS:¬ S j) (hB:∀ i,B j i->S i) {K:Act->World->Prop} {Q:Exit->Act->World->Prop}
 (hK:∀ a' w' F' μ',Inv I E ops Ts cf B X N w0 F0 μ0 G0 AN (λi=>S i\/i=j) a' w' F' μ'->K a' w'):wpOpIn (Wr r) 0 E.P ops Q j K a w:=by
 have vd:qz E:=aq.kept;have ur:=cH.kept;have ho:ops.toList[j]?=some ops.toList[j]:=az hj;generalize ops.toList[j]=o at ho;have im:ops[j]?=some o:=by simpa using ho
 have hT:=inv.zxB tr ho hS hB;have VF:∀ i k,(S k\/k=j)->B k i->(S i\/i=j):=by rintro i k (h|rfl) hb;exact .inl (inv.down i k h hb);exact .inl (hB i hb)
 have mj:∀ x,(a.put o.dst x).tmps.size=AN/\(a.put o.dst x).defers=a.defers:=by intro x;rw[<- inv.size];cases o.dst<;>simp[Act.put]
 have tW:∀ {id:Nat},Q5 cf j id->Gk cf (λi=>S i\/i=j) ops.toList.length id=(cf (j+1)).H.get id:=λhc=>tr.done vd ur hj hS inv.down hc;unfold wpOpIn;rw[im];dsimp only
 have hrd:∀ {kq:Z Nat} {n:Nat} {l:Z Nat},(∀ id∈kq,id∈rs j)->∀ (id:Nat) (o1:Obj),({ H:=iC (cf j).H kq,n:=n,log:=l }:HS).H.get id=some o1->(∀ g,μ id g=none)\/Gk cf S ops.toList.length id=some o1:=by
  intro kq n l hY id o1 h3;let⟨h4,h5⟩:=Ms h3;by_cases sR:∀ g,μ id g=none;exact .inl sR;right;have hG:Gk cf S ops.toList.length id≠none:=by let⟨g,hg⟩:=Classical.not_forall.1 sR;refine(inv.cx id g hg).resolve_right λW=>?_;have:=tr.xR vd ur (i:=j) (j:=ops.toList.length) (by omega) (af _) (k:=id) (by rw[h5];simp);exact this (hO id W)
  cases zOz:Gk cf S ops.toList.length id with
  |none=>exact absurd zOz hG
  |some o2=>rw[tr.reads vd ur hj hS inv.down hB (hY id h4) h5 zOz]
 have hx:(cf (j+1)=cf j)->Gk cf S ops.toList.length=Gk cf (λi=>S i\/i=j) ops.toList.length:=by intro e;funext id;exact(EY λhc=>hc (by rw[e])).symm
 rcases yT (tr.step j o ho)with⟨hw,hv,hh,_,_⟩|⟨hw,h0|M|O|h3⟩
 -- it is not run
 rw[if_neg (by rw[FI hT hw];simp)];refine⟨λ_ _=>trivial,?_⟩;have W:dZ I w F μ (vs j) undef:=by rw[hv];exact .pure (.tuple [] #[] rfl λi v hi=>by simp at hi)
 have e:=hx hh;exact hK _ w F μ ⟨VF,e ▸ inv.rg,e ▸ inv.fr,e ▸ inv.cx,NA tr inv cd (λ_ _ h=>h) ho hS hB W,(mj _).1,by rw[(mj _).2];exact inv.marks⟩
 -- it reads alone
 let⟨hc,hh,A6,_,O,eK⟩:=h0;rw[if_pos (FI hT hw)];have hR:R I w F μ E.P { H:=iC (cf j).H (cP (iC (Ts j) (looks ops.toList o)) o.op),n:=0,log:=[] }:=inv.rg.toR (hrd λid h=>by rw[A6];exact h);let⟨hd,x,A4,hx2⟩:=znC hρ hR hT hc eK;refine⟨λ_ _=>trivial,?_⟩;rw[Oper.semAt_eq _ _ _ hd,A4];have e:=hx hh;exact hK _ w F μ ⟨VF,e ▸ inv.rg,e ▸ inv.fr,e ▸ inv.cx,NA tr inv cd (λ_ _ h=>h) ho hS hB hx2,(mj _).1,by rw[(mj _).2];exact inv.marks⟩
 -- it makes an object
 let⟨hc,ft,A6,_,O,o',eK,dq,hz,hh⟩:=M;rw[if_pos (FI hT hw)];have ey:=Sj hc;have HG:Mk ops.toList Ts j:=⟨o,ho,hc,hw⟩;have hst':UZ E.P true (iC (Ts j) (looks ops.toList o)) { H:=.leaf,n:=0,log:=[] } (xM+j) (WY o.op)=some (vs j,O):=by unfold cy at eK;rw[ey]at eK;exact eK
 let⟨o2,zwx⟩:=zom hc ey hst';have e2:o2=o':=by rw[zwx,if_pos rfl]at dq;exact bT dq
 subst e2;have Pa:∀ k,k≠xM+j->O.H.get k=none:=λk hk=>by rw[zwx,if_neg hk];rfl
 have hG0:Gk cf S ops.toList.length (xM+j)=none:=tr.notYet vd ur hj hS inv.down HG hS;have RN:∀ (id:Nat) (o:Obj),({ H:=.leaf,n:=0,log:=[] }:HS).H.get id=some o->(∀ g,μ id g=none)\/Gk cf S ops.toList.length id=some o:=λid o h=>by cases h
 have hR:R I w F μ E.P { H:=.leaf,n:=0,log:=[] }:=inv.rg.toR RN;have ly:IP μ { H:=.leaf,n:=0,log:=[] } (xM+j):=⟨rfl,λg=>aY λcg=>(inv.cx _ g cg).elim (λh=>h hG0) (hX _ (by omega))⟩;refine Qd (C:={ H:=.leaf,n:=0,log:=[] }) (λc hd=>by rw[hd]at hc;cases hc) (zok hρ hR hT ey (λ_=>ly) hst') ?_;intro x w' F' μ' vf W hf;have aE:(cf (j+1)).H.get (xM+j)=some o2:=by rw[hh,mJ,if_pos rfl]
 have hG1:Gk cf (λi=>S i\/i=j) ops.toList.length (xM+j)=some o2:=by rw[tW (by show _≠_;rw[aE,ft];simp)];exact aE
 have hG2:∀ id,id≠xM+j->Gk cf (λi=>S i\/i=j) ops.toList.length id=Gk cf S ops.toList.length id:=λid cg=>EY λhc=>hc (by rw[hh,mJ,if_neg cg])
 let⟨k1,k2⟩:=inv.rg.merge (G':=Gk cf (λi=>S i\/i=j) ops.toList.length) RN vf hf
  (λid o1 h=>by
    by_cases e:id=xM+j;subst e;rw[hG1]at h;cases h;exact .inl dq
    rw[hG2 id e]at h;exact .inr ⟨h,Pa id e⟩)
  (λid h=>by
    by_cases e:id=xM+j;subst e;rw[hG1];simp
    rw[hG2 id e];exact h)
  (λid h=>by
    by_cases e:id=xM+j;subst e;rw[hG1]at h;cases h
    exact .inl (Pa id e))
  (.inr (.inl λid o1 h=>by
    by_cases e:id=xM+j;subst e;rw[dq]at h;cases h;exact hz
    rw[Pa id e]at h;cases h))
  (λid _ h=>by
    by_cases e:id=xM+j;subst e;exact hG0
    exact absurd (Pa id e) h)
 exact hK _ w' F' μ' ⟨VF,k1,inv.fr.trans k2,k2.cx inv.cx,NA tr inv cd (λ_ _ h=>k2.rep inv.rg h) ho hS hB W,(mj _).1,
  by rw[(mj _).2];exact inv.marks.bw hR hf⟩
 -- it may write
 let⟨hc,zLZ,ft,A6,O,eK,hh,_⟩:=O;rw[if_pos (FI hT hw)];have cr:W2 ops.toList j:=⟨o,ho,hc⟩;have sT:¬ St ops.toList j:=by rintro ⟨o2,z9,h3⟩;rw[ho]at z9;cases z9;rw[zLZ]at h3;cases h3
 have oA:¬ Mk ops.toList Ts j:=by rintro ⟨o2,z9,h3,_⟩;rw[ho]at z9;cases z9;rw[hc]at h3;cases h3
 have rg:=inv.rg;have fr:=inv.fr;have cx:=inv.cx;have e2:(cf (j+1)).H=O.H:=by rw[hh]
 have zdf:∀ {id:Nat},(∀ i,Mk ops.toList Ts i->id≠xM+i)->Gk cf S ops.toList.length id=(cf j).H.get id:=λh=>tr.zAz vd ur hj hS inv.down hB cr sT h;have cG:∀ {i:Nat},Mk ops.toList Ts i->S i->i<j->Gk cf S ops.toList.length (xM+i)=(cf j).H.get (xM+i):=λM O h3=>tr.zNm vd ur hj hS inv.down hB cr sT M O h3;have rK:∀ {i:Nat},Mk ops.toList Ts i->S i->j<=i->Gk cf S ops.toList.length (xM+i)=(cf (i+1)).H.get (xM+i):=λM O h3=>tr.zNn vd ur hj hS inv.down hB cr sT M O h3;have HD:∀ {i:Nat},Mk ops.toList Ts i->¬ S i->Gk cf S ops.toList.length (xM+i)=none:=λM O=>tr.notYet vd ur hj hS inv.down M O;have zF0:∀ i,Mk ops.toList Ts i->j<=i->(cf j).H.get (xM+i)=none:=λi hm hle=>tr.Ae vd ur hle (by have:=(tr.made hm).1;omega) (tr.made hm).2.2.1;have zfP:∀ i,Mk ops.toList Ts i->j<=i->O.H.get (xM+i)=none:=λi hm hle=>by have cg:i≠j:=λe=>oA (e ▸ hm);rw[<- e2];exact tr.Ae vd ur (i:=j+1) (j:=i) (by omega) (by have:=(tr.made hm).1;omega) (tr.made hm).2.2.1
 have kf:∀ k,(cf j).H.get k≠none->O.H.get k≠none:=λk hk=>by rw[<- e2];exact(tr.kept vd ur ho).1.hm k hk
 have zpu:∀ i,Mk ops.toList Ts i->i<j->(cf j).H.get (xM+i)≠none:=λi hm cG=>by let⟨o1,h3,_⟩:=(tr.made hm).2.2.2.1;exact tr.xR vd ur (i:=i+1) (j:=j) cG (dG hj) (by rw[h3];simp)
 have zps:∀ i,Mk ops.toList Ts i->¬ S i->∀ g,μ (xM+i) g=none:=λi hm C g=>aY λcg=>by rcases cx _ g cg with h3|h3;exact h3 (HD hm C);exact hX _ (by omega) h3
 have eN:∀ (id:Nat) (o1:Obj),({ H:=(cf j).H,n:=(cf j).n,log:=[] }:HS).H.get id=some o1->(∀ g,μ id g=none)\/Gk cf S ops.toList.length id=some o1:=by intro id o1 h;rcases JG xM (Mk ops.toList Ts) id with⟨i,hm,rfl⟩|lb;by_cases C:S i;by_cases M:i<j;right;rw[cG hm C M];exact h;have:=zF0 i hm (by omega);rw[this]at h;cases h;exact .inl (zps i hm C);right;rw[zdf lb];exact h
 have hR:R I w F μ E.P { H:=(cf j).H,n:=(cf j).n,log:=[] }:=rg.toR eN;have zI7:xM+ops.toList.length<=(cf j).n:=aO hn (tr.zLm vd ur (dG hj));have hD:Py (λid=>X id\/∃ i,Mk ops.toList Ts i/\j<=i/\id=xM+i) μ { H:=(cf j).H,n:=(cf j).n,log:=[] }:=by refine⟨λid g hg=>?_,?_⟩;grind;rintro id hid (h3|⟨i,hm,_,rfl⟩);grind;have:=(tr.made hm).1;grind
 have hO2:pP (λid=>X id\/∃ i,Mk ops.toList Ts i/\j<=i/\id=xM+i) O:=by rintro id (h3|⟨i,hm,hle,rfl⟩);rw[<- e2];exact tr.Ae vd ur (i:=j+1) (j:=ops.toList.length) hj (af _) (hO id h3);grind
 have hG0:Gk cf S ops.toList.length (xM+j)=none:=by grind
 have ly:IP μ { H:=(cf j).H,n:=(cf j).n,log:=[] } (xM+j):=⟨ft,λg=>aY λcg=>(cx _ g cg).elim (λh=>h hG0) (hX _ (by omega))⟩;refine Cp hρ aq cH hR hD hO2 hT (λ_=>ly) eK ?_;intro x w' F' μ' vf W hf;have zGe:∀ id,Q5 cf j id->O.H.get id≠none:=λid ox=>by rw[<- e2];exact tr.D6 vd ur hj ox
 obtain ⟨k1,k2⟩:=rg.merge (G':=Gk cf (λi=>S i\/i=j) ops.toList.length) eN vf hf
  (λid o1 h=>by
    by_cases ox:Q5 cf j id;rw[tW ox,e2]at h;exact .inl h;have e:O.H.get id=(cf j).H.get id:=(by rw[<- e2];exact aY λh=>ox h);rw[EY ox]at h;rcases JG xM (Mk ops.toList Ts) id with⟨i,hm,rfl⟩|lb;by_cases C:S i;by_cases M:i<j;rw[cG hm C M]at h;exact .inl (by rw[e];exact h);exact .inr ⟨h,zfP i hm (by omega)⟩;rw[HD hm C]at h;cases h
    rw[zdf lb]at h;exact .inl (by rw[e];exact h))
  (λid h=>by
    by_cases ox:Q5 cf j id;rw[tW ox,e2];exact zGe id ox
    rw[EY ox];exact h)
  (λid h=>by
    by_cases ox:Q5 cf j id;rw[tW ox,e2]at h;exact absurd h (zGe id ox);have e:O.H.get id=(cf j).H.get id:=(by rw[<- e2];exact aY λh=>ox h);rw[EY ox]at h;rcases JG xM (Mk ops.toList Ts) id with⟨i,hm,rfl⟩|lb;by_cases M:i<j;by_cases C:S i;rw[cG hm C M]at h;exact .inl (by rw[e];exact h);exact .inr ⟨zpu i hm M,zps i hm C⟩;exact .inl (zfP i hm (by omega))
    rw[zdf lb]at h;exact .inl (by rw[e];exact h))
  (.inl λid o1 h u5=>by
    rcases JG xM (Mk ops.toList Ts) id with⟨i,hm,rfl⟩|lb;by_cases C:S i;by_cases M:i<j;grind;rw[rK hm C (by omega)]at h;let⟨o3,h3,h4⟩:=(tr.made hm).2.2.2.1;grind;grind;rw[zdf lb]at h
    exact absurd u5 (kf _ (by rw[h];simp)))
  (λid h cg=>by
    rcases JG xM (Mk ops.toList Ts) id with⟨i,hm,rfl⟩|lb;by_cases M:i<j;exact absurd h (zpu i hm M);exact absurd (zfP i hm (by omega)) cg
    rw[zdf lb];exact h)
 exact hK _ w' F' μ' ⟨VF,k1,fr.trans k2,k2.cx cx,NA tr inv cd (λ_ _ h=>k2.rep rg h) ho hS hB W,(mj _).1,
  by rw[(mj _).2];exact inv.marks.bw hR hf⟩
 -- a store
 let⟨hc,zFM,A6,O,eK,hh,_⟩:=h3;rw[if_pos (FI hT hw)];have eN:=hrd (kq:=sD (iC (Ts j) (looks ops.toList o)) (cf j) o.op) (n:=0) (l:=[]) (λid h=>by rw[A6];exact h);have hR:=inv.rg.toR eN;let⟨hd,hv,w',F',A4,vf,hf⟩:=znB hρ hR hT zFM eK;refine⟨λ_ _=>trivial,?_⟩;rw[Oper.semAt_eq _ _ _ hd,A4];have e2:∀ id,(cf (j+1)).H.get id=if id∈sD (iC (Ts j) (looks ops.toList o)) (cf j) o.op/\O.H.get id≠none then O.H.get id else (cf j).H.get id:=λid=>by rw[hh];exact Jo _ _
 have hold:∀ id,O.H.get id≠none->id∈sD (iC (Ts j) (looks ops.toList o)) (cf j) o.op/\(cf j).H.get id≠none:=by
  intro id h
  cases hq:O.H.get id with
  |none=>exact absurd hq h
  | some q =>grind [XQ,Ms]
 have zL1:∀ id,(cf j).H.get id≠none->¬ X id:=λid h W=>tr.xR vd ur (i:=j) (j:=ops.toList.length) (by omega) (af _) h (hO id W)
 obtain ⟨k1,k2⟩:=inv.rg.merge (G':=Gk cf (λi=>S i\/i=j) ops.toList.length) eN vf hf
  (λid o1 h=>by
    by_cases ox:Q5 cf j id;have h5:id∈sD (iC (Ts j) (looks ops.toList o)) (cf j) o.op/\O.H.get id≠none:=aY λhn=>ox (by rw[e2,if_neg hn]);grind;rw [EY ox]at h;by_cases hn:O.H.get id=none;grind
    left;let⟨h3,h4⟩:=hold id hn
    have h5:O.H.get id=(cf j).H.get id:=(by have:(cf (j+1)).H.get id=(cf j).H.get id:=aY λh=>ox h;rw[e2,if_pos ⟨h3,hn⟩]at this;exact this);rw[h5]
    cases hq:(cf j).H.get id with
    |none=>exact absurd hq h4
    |some q=>rw[tr.reads vd ur hj hS inv.down hB (by rw[A6];exact h3) hq h])
  (λid h=>by
    by_cases ox:Q5 cf j id;rw[tW ox];exact tr.D6 vd ur hj ox
    rw[EY ox];exact h)
  (λid h=>by
    by_cases hn:O.H.get id=none;exact .inl hn
    right;let⟨h3,h4⟩:=hold id hn;refine⟨by show (iC _ _).get id≠none;rw[z8,if_pos h3];exact h4,λg=>aY λcg=>?_⟩;rcases inv.cx id g cg with h5|h5
    by_cases ox:Q5 cf j id;rw[tW ox]at h;exact tr.D6 vd ur hj ox h;rw[EY ox]at h;exact h5 h
    exact zL1 id h4 h5)
  (.inr (.inr λid q hq m hm=>by
    let⟨o0,h3,h4⟩:=XQ zFM eK hq
    exact⟨o0,h3,by rw[h4];exact hm⟩))
  (λid h cg=>by
    let⟨h3,h4⟩:=hold id cg;have:(iC (cf j).H (sD (iC (Ts j) (looks ops.toList o)) (cf j) o.op)).get id=none:=h;rw[z8,if_pos h3]at this
    exact absurd this h4)
 have W:dZ I w' F' μ (vs j) undef:=by rw[hv];exact .pure (.tuple [] #[] rfl λi v hi=>by simp at hi)
 exact hK _ w' F' μ ⟨VF,k1,inv.fr.trans k2,k2.cx inv.cx,NA tr inv cd (λ_ _ h=>k2.rep inv.rg h) ho hS hB W,(mj _).1,
  by rw[(mj _).2];exact inv.marks.bw hR hf⟩
end
end Go.J
