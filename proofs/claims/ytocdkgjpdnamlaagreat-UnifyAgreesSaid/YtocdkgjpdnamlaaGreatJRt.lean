import Derived.Test.YtocdkgjpdnamlaaGreatJRx
set_option linter.all false
noncomputable section
/- Functions that read a row of their caller and answer with two values. -/
namespace Go.J
open Enc (enc)
theorem V.zc4{A:Nat->Bool}{a:V}(h:a.pure=true):a.o5 A=true:=by
 have h3:=V.eO (A:=A) h;cases a<;>first|exact h3|cases h
def zy(v:V):Bool:=match v with
 |.tuple [a,b]=>et a.pure b.pure
 |_=>false
@[simp] theorem zG8 {a b:V}:zy (.tuple [a,b])=et a.pure b.pure:=(rfl)
theorem J6{v:V}(h:zy v=true):∃ a b,v=.tuple [a,b]/\a.pure=true/\b.pure=true:=by
 unfold zy at h
 grind [bA]
theorem Zr{A:Nat->Bool}{v:V}(h:zy v=true):v.nk A=true:=by
 obtain⟨a,b,rfl,ha,hb⟩:=J6 h;show ([a,b].all (V.o5 A))=true
 grind [V.zc4,Bool.and_self]
theorem aA.ztO{ρ:Nat->Value}{P:Program}{hs hs1:HS}{f:FuncId}{vs:List V}{v:V}(h:aA ρ P f vs hs v hs1)(hv:zy v=true)(hsub:∀ id o,hs.H.get id=some o->hs1.H.get id=some o)
 (hnew:∀ id,id<hs.n->hs.H.get id=none->hs1.H.get id=none):aA ρ P f vs hs v hs:=by
 obtain⟨a,b,rfl,ha,hb⟩:=J6 hv;intro X w F μ xs hR hD hO hA;have zvi:Off X hs1:=fun id hx=>hnew id (Nat.lt_of_not_le fun hle=>hD.2 id hle hx) (hO id hx)
 refine CallsIn.mono (h X w F μ xs hR hD zvi hA) fun e w' he=>?_
 cases e with
 | returned x =>
   obtain⟨F1,μ1,g1,g2,g3⟩:=he;obtain⟨ys,rfl,hsz,hc⟩:=bR.jv ρ g2
   refine⟨F1,μ,⟨fun id g m hm=>Nat.lt_of_lt_of_le (hR.lt id g m hm) g3.size,g1.sI,fun id o ho=>?_,hR.inj,hR.nU⟩,.tuple _ ys hsz fun i v hi=>?_,
    ⟨g3.io,g3.size,g3.keep,g3.fm,g3.pQ,fun _ _ _ hm=>hm,fun b hb=>.inl hb,fun _ hh=>hh,fun _ _ _=>rfl,fun _ _ hh=>hh,fun id g m hm=>.inr ⟨id,g,m,hm,rfl⟩⟩⟩
   . exact(hR.obj id o ho).part (g1.obj id o (hsub id o ho)) g3.mm
   . rcases i with _|_|i
     . cases hi;exact .pure (bR.qQ ρ (hc 0 a rfl) ha)
     . cases hi;exact .pure (bR.qQ ρ (hc 1 b rfl) hb)
     . simp at hi
 |panicked c=>exact he
 |outgrown=>exact he
def Oj(M:List V->HS->Option fA):Spec:=fun vs hs=>ob (M vs hs) fun D=>gd (zy D.v0) (some (D.v0,hs))
theorem znY{ρ:Nat->Value}{E:Env}{f:FuncId}{fn:Func}{sc:SC}{T:PT V}{D:fA}(hρ:J.Good ρ)(hcon:aZ ρ E)(hP:E.P.follows .mixedOrders=true)(hN:nW E.P)(hf:E.P.funcs[f]?=some fn)(hb:fn.body.bind aB=some sc)(he:iI fn.ntmps D.vs0 0 .leaf=some T)
 (hg:D.Good) (ho:D.OL'=D.OL) (hr:zy D.v0=true) (h:Wp ρ E D.k fn.ntmps sc T { H:=di D.OL,n:=D.k,log:=[] } (Leaves E.P fn (aj D.k D.v0 D.OL))) {vs:List V} {hs:HS} (hfit:D.Fits vs hs) :
 aA ρ E.P f vs hs D.v0 hs:=by
 have key:=MF hρ hcon hP hN hf hb he hg (by rw[ho];exact h) hfit;rw[V.jy (Zr hr)]at key
 have hsame:∀ id,(sK hs D.k D.k' D.π D.OL').H.get id=hs.H.get id:=by
  intro id;refine DJ (fun p hp=>?_) id;obtain⟨p0,hp0,rfl⟩:=List.mem_map.1 hp;have hp1:p0∈D.OL:=by rw[<- ho];exact hp0
  have hlt:∀ i,dom D.OL i=true->i<D.k:=by
   intro i hi;obtain⟨q,hq,hqi⟩:=List.any_eq_true.1 hi;rw[beq_true]at hqi;exact List.mem_range.1 (by rw[<- hg.ol];exact List.mem_map.2 ⟨q,hq,hqi⟩)
  have h0:p0.1<D.k:=hlt _ (List.any_eq_true.2 ⟨p0,hp1,beq_true.2 rfl⟩);show hs.H.get (news hs.n D.k D.π p0.1)=some (p0.2.ren (news hs.n D.k D.π));rw[show news hs.n D.k D.π p0.1=D.π p0.1 from if_pos h0,Obj.J2 (A:=dom D.OL) (π:=news hs.n D.k D.π) (σ:=D.π) (fun i hi=>if_pos (hlt i hi)) (hg.zHu p0 hp1)];exact hfit.obj p0 hp1
 grind [aA.ztO,id]
theorem Valid.Oj{ρ:Nat->Value}{P:Program}{f:Nat}{M:List V->HS->Option fA}(hf:lW P f)(h:∀ vs hs D,M vs hs=some D->zy D.v0=true->aA ρ P f vs hs D.v0 hs):Valid ρ P f (Oj M) where
 fn:=hf
 ok:=by
  intro vs hs v hs' hq;simp only[J.Oj,af,aD]at hq;obtain⟨D,hD,hp,hq⟩:=hq;cases hq;exact h _ _ _ hD hp
 kept:=by
  intro vs hs q hq;simp only[J.Oj,af,aD]at hq;obtain⟨D,hD,hp,hq⟩:=hq;cases hq;exact .refl _
@[simp] theorem zJ6 {M:List V->HS->Option fA} {vs:List V} {hs:HS} {Q:V×HS->Prop}:qI (J.Oj M vs hs) Q=qI (M vs hs) fun D=>zy D.v0=true/\Q (D.v0,hs):=by
  show ok (J.Oj M vs hs) Q=ok (M vs hs) fun D=>zy D.v0=true/\Q (D.v0,hs)
  simp only[J.Oj,dA,jA,aW]
section
variable {α β γ:Type} [Enc α] [Enc β] [fB γ]
def zQY(sz:Nat)(F:α->List γ->Option β)(vs:List V)(hs:HS):Option fA :=
 match vs with
 | [.own ro x o n c,a]=>ob (Enc.dec a:Option α) fun t=>ob (rowOf sz hs (.own ro x o n c)) fun es=>ob (bQ es:Option (List γ)) fun l=>ob (F t l) fun r=>some (zcf sz 1 0 a 0 ro es (enc r))
 |_=>none
variable {sz:Nat}{F:α->List γ->Option β}{a:V}{hs:HS}
@[simp] theorem zOj {ro x o n:Nat} {c:Option Nat}:zQY sz F [.own ro x o n c,a] hs=ob (Enc.dec a:Option α) fun t=>ob (rowOf sz hs (.own ro x o n c)) fun es=>ob (bQ es:Option (List γ)) fun l=>ob (F t l) fun r=>some (zcf sz 1 0 a 0 ro es (enc r)):=(rfl)
end
def zyk(A B:Spec):Spec:=fun vs hs=>match vs with
 |.snil::l=>A (.snil::l) hs
 |.own i g o n c::l=>B (.own i g o n c::l) hs
 |_=>none
@[simp] theorem zHf {A B:Spec} {l:List V} {hs:HS}:zyk A B (.snil::l) hs=A (.snil::l) hs:=(rfl)
@[simp] theorem zHe {A B:Spec} {i g o n:Nat} {c:Option Nat} {l:List V} {hs:HS}:zyk A B (.own i g o n c::l) hs=B (.own i g o n c::l) hs:=(rfl)
theorem Valid.zyk{ρ:Nat->Value}{P:Program}{f:Nat}{A B:Spec}(hA:Valid ρ P f A)(hB:Valid ρ P f B):Valid ρ P f (zyk A B) where
 fn:=hA.fn
 ok:=by
  intro vs hs v hs' hq;unfold J.zyk at hq;split at hq
  . exact hA.ok hq
  . exact hB.ok hq
  . cases hq
 kept:=by
  intro vs hs q hq;unfold J.zyk at hq;split at hq
  . exact hA.kept hq
  . exact hB.kept hq
  . cases hq
end Go.J
