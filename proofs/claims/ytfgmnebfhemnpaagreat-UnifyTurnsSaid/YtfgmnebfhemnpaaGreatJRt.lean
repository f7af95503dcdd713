import Derived.Test.YtfgmnebfhemnpaaGreatJRx
set_option linter.all false
noncomputable section
/- Functions that read a row of their caller and answer with two values. -/
namespace Go.J
open Enc (enc)
theorem V.in2_pure{A:Nat->Bool}{a:V}(h:a.pure=true):a.in2 A=true:=by
 have h3:=V.in3_pure (A:=A) h;cases a<;>first|exact h3|cases h
def zi6(v:V):Bool:=match v with
 |.tuple [a,b]=>et a.pure b.pure
 |_=>false
@[simp] theorem zL6 {a b:V}:zi6 (.tuple [a,b])=et a.pure b.pure:=(rfl)
theorem zll{v:V}(h:zi6 v=true):∃ a b,v=.tuple [a,b]/\a.pure=true/\b.pure=true:=by
 unfold zi6 at h;split at h
 . rename_i a b;rw[et_true]at h;exact⟨a,b,rfl,h.1,h.2⟩
 . cases h
theorem zrs{A:Nat->Bool}{v:V}(h:zi6 v=true):v.in3 A=true:=by
 obtain⟨a,b,rfl,ha,hb⟩:=zll h;show ([a,b].all (V.in2 A))=true;simp only[List.all_cons,List.all_nil,V.in2_pure ha,V.in2_pure hb,Bool.and_self]
theorem CallOk.quietT{ρ:Nat->Value}{P:Program}{hs hs1:HS}{f:FuncId}{vs:List V}{v:V}(h:CallOk ρ P f vs hs v hs1)(hv:zi6 v=true)(hsub:∀ id o,hs.H.get id=some o->hs1.H.get id=some o)
 (hnew:∀ id,id<hs.n->hs.H.get id=none->hs1.H.get id=none):CallOk ρ P f vs hs v hs:=by
 obtain⟨a,b,rfl,ha,hb⟩:=zll hv;intro X w F μ xs hR hD hO hA;have hO1:Off X hs1:=fun id hx=>hnew id (Nat.lt_of_not_le fun hle=>hD.2 id hle hx) (hO id hx)
 refine CallsIn.mono (h X w F μ xs hR hD hO1 hA) fun e w' he=>?_
 cases e with
 | returned x =>
   obtain⟨F1,μ1,g1,g2,g3⟩:=he;obtain⟨ys,rfl,hsz,hc⟩:=Rep.tuple_inv ρ g2
   refine⟨F1,μ,⟨fun id g m hm=>Nat.lt_of_lt_of_le (hR.lt id g m hm) g3.size,g1.flt,fun id o ho=>?_,hR.inj,hR.gens⟩,.tuple _ ys hsz fun i v hi=>?_,
    ⟨g3.io,g3.size,g3.keep,g3.fm,g3.fnew,fun _ _ _ hm=>hm,fun b hb=>.inl hb,fun _ hh=>hh,fun _ _ _=>rfl,fun _ _ hh=>hh,fun id g m hm=>.inr ⟨id,g,m,hm,rfl⟩⟩⟩
   . exact(hR.obj id o ho).part (g1.obj id o (hsub id o ho)) g3.mm
   . rcases i with _|_|i
     . cases hi;exact .pure (Rep.of_pure ρ (hc 0 a rfl) ha)
     . cases hi;exact .pure (Rep.of_pure ρ (hc 1 b rfl) hb)
     . simp at hi
 |panicked c=>exact he
 |outgrown=>exact he
def rdT(M:List V->HS->Option EmbD):Spec:=fun vs hs=>ob (M vs hs) fun D=>gd (zi6 D.v0) (some (D.v0,hs))
theorem z7Z{ρ:Nat->Value}{E:Env}{f:FuncId}{fn:Func}{sc:SC}{T:PT V}{D:EmbD}(hρ:J.Good ρ)(hcon:ConsOk ρ E)(hP:E.P.follows .mixedOrders=true)(hN:zdP E.P)(hf:E.P.funcs[f]?=some fn)(hb:fn.body.bind zz=some sc)(he:zbu fn.ntmps D.vs0 0 .leaf=some T)
 (hg:D.Good) (ho:D.OL'=D.OL) (hr:zi6 D.v0=true) (h:Wp ρ E D.k fn.ntmps sc T { H:=mkP D.OL,n:=D.k,log:=[] } (Leaves E.P fn (GivesL D.k D.v0 D.OL))) {vs:List V} {hs:HS} (hfit:D.Fits vs hs) :
 CallOk ρ E.P f vs hs D.v0 hs:=by
 have key:=zoG hρ hcon hP hN hf hb he hg (by rw[ho];exact h) hfit;rw[V.ren_none (zrs hr)]at key
 have hsame:∀ id,(zgK hs D.k D.k' D.π D.OL').H.get id=hs.H.get id:=by
  intro id;refine zhz (fun p hp=>?_) id;obtain⟨p0,hp0,rfl⟩:=List.mem_map.1 hp;have hp1:p0∈D.OL:=by rw[<- ho];exact hp0
  have hlt:∀ i,dom D.OL i=true->i<D.k:=by
   intro i hi;obtain⟨q,hq,hqi⟩:=List.any_eq_true.1 hi;rw[beq_true]at hqi;exact List.mem_range.1 (by rw[<- hg.ol];exact List.mem_map.2 ⟨q,hq,hqi⟩)
  have h0:p0.1<D.k:=hlt _ (List.any_eq_true.2 ⟨p0,hp1,beq_true.2 rfl⟩);show hs.H.get (news hs.n D.k D.π p0.1)=some (p0.2.ren (news hs.n D.k D.π));rw[show news hs.n D.k D.π p0.1=D.π p0.1 from if_pos h0,Obj.ren_congr (A:=dom D.OL) (π:=news hs.n D.k D.π) (σ:=D.π) (fun i hi=>if_pos (hlt i hi)) (hg.inn p0 hp1)];exact hfit.obj p0 hp1
 exact CallOk.quietT key hr (fun id o ho=>by rw[hsame];exact ho) (fun id _ hn=>by rw[hsame];exact hn)
theorem Valid.rdT{ρ:Nat->Value}{P:Program}{f:Nat}{M:List V->HS->Option EmbD}(hf:zeH P f)(h:∀ vs hs D,M vs hs=some D->zi6 D.v0=true->CallOk ρ P f vs hs D.v0 hs):Valid ρ P f (rdT M) where
 fn:=hf
 ok:=by
  intro vs hs v hs' hq;simp only[J.rdT,zt,z8]at hq;obtain⟨D,hD,hp,hq⟩:=hq;cases hq;exact h _ _ _ hD hp
 kept:=by
  intro vs hs q hq;simp only[J.rdT,zt,z8]at hq;obtain⟨D,hD,hp,hq⟩:=hq;cases hq;exact .refl _
@[simp] theorem zOm {M:List V->HS->Option EmbD} {vs:List V} {hs:HS} {Q:V×HS->Prop}:okT (J.rdT M vs hs) Q=okT (M vs hs) fun D=>zi6 D.v0=true/\Q (D.v0,hs):=by
  show ok (J.rdT M vs hs) Q=ok (M vs hs) fun D=>zi6 D.v0=true/\Q (D.v0,hs)
  simp only[J.rdT,zak,zbX,zF]
section
variable {α β γ:Type} [Enc α] [Enc β] [Cel γ]
def rtM(sz:Nat)(F:α->List γ->Option β)(vs:List V)(hs:HS):Option EmbD :=
 match vs with
 | [.own ro x o n c,a]=>ob (Enc.dec a:Option α) fun t=>ob (rowOf sz hs (.own ro x o n c)) fun es=>ob (zah es:Option (List γ)) fun l=>ob (F t l) fun r=>some (rrD sz 1 0 a 0 ro es (enc r))
 |_=>none
variable {sz:Nat}{F:α->List γ->Option β}{a:V}{hs:HS}
@[simp] theorem zS9 {ro x o n:Nat} {c:Option Nat}:rtM sz F [.own ro x o n c,a] hs=ob (Enc.dec a:Option α) fun t=>ob (rowOf sz hs (.own ro x o n c)) fun es=>ob (zah es:Option (List γ)) fun l=>ob (F t l) fun r=>some (rrD sz 1 0 a 0 ro es (enc r)):=(rfl)
end
def nrS(A B:Spec):Spec:=fun vs hs=>match vs with
 |.snil::l=>A (.snil::l) hs
 |.own i g o n c::l=>B (.own i g o n c::l) hs
 |_=>none
@[simp] theorem zLD {A B:Spec} {l:List V} {hs:HS}:nrS A B (.snil::l) hs=A (.snil::l) hs:=(rfl)
@[simp] theorem zLC {A B:Spec} {i g o n:Nat} {c:Option Nat} {l:List V} {hs:HS}:nrS A B (.own i g o n c::l) hs=B (.own i g o n c::l) hs:=(rfl)
theorem Valid.nrS{ρ:Nat->Value}{P:Program}{f:Nat}{A B:Spec}(hA:Valid ρ P f A)(hB:Valid ρ P f B):Valid ρ P f (nrS A B) where
 fn:=hA.fn
 ok:=by
  intro vs hs v hs' hq;unfold J.nrS at hq;split at hq
  . exact hA.ok hq
  . exact hB.ok hq
  . cases hq
 kept:=by
  intro vs hs q hq;unfold J.nrS at hq;split at hq
  . exact hA.kept hq
  . exact hB.kept hq
  . cases hq
end Go.J
