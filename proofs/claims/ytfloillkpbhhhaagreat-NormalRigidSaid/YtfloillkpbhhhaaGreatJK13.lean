import Derived.Test.YtfloillkpbhhhaaGreatJK12
import Derived.Test.YtfloillkpbhhhaaGreatJK8
import Derived.Test.YtfloillkpbhhhaaGreatJK9
import Derived.Test.YtfloillkpbhhhaaGreatJK10
import Derived.Test.YtfloillkpbhhhaaGreatJK7
import Derived.Test.YtfloillkpbhhhaaGreatJK5
import Derived.ChangeShapes
import Derived.WideKeyArgs
import Derived.Below
import Derived.OpenShut
set_option linter.all false
noncomputable section
namespace Go.J
open bo (enc)
variable {f:FuncId}{a8:HS}{α:Type}{v:Value}{P Q:Xp->Prop}{N:Z (Z Nat)}{D:Z Decl}{ps:Z MemPlace}{vs:Z V}
theorem TK{z:α}{l:Z α}(h:l≠[])(t:Tp):mJ z l (t.next (l.length:Int)).2∈l:=by
 obtain⟨j,hj,M,O⟩:=C8 t h;unfold mJ
 grind
theorem UA(hD:∀ dd∈D,dd.ctors≠[])(d:Nat)(hv:∀ n,n∈N\/n=[120]->Q (Ap n))(hc:∀ dd∈D,∀ c∈dd.ctors,Q (Q8 c.name))(h0:∀ e,Q e->P e)(C:∀ d',d=d'+1->∀ t e i,i<=2->Q e->P (mQ d' t D N e i).2)(t:Tp):P (zo d t D N).2:=by
 rw[zo.eq_def];dsimp only
 have M:Q (if N≠[]then ((t.next N.length).1,Ap (mJ [] N (t.next N.length).2))else (t,Ap [120])).2:=by
  grind [TK]
 generalize (if N≠[]then ((t.next N.length).1,Ap (mJ [] N (t.next N.length).2))else (t,Ap [120]))=p at M
 have O:Q (if D≠[]then (if (p.1.next 2).2=0 then ((((p.1.next 2).1.next D.length).1.next (mJ zt D ((p.1.next 2).1.next D.length).2).ctors.length).1,Q8 (mJ Jm (mJ zt D ((p.1.next 2).1.next D.length).2).ctors (((p.1.next 2).1.next D.length).1.next (mJ zt D ((p.1.next 2).1.next D.length).2).ctors.length).2).name)else ((p.1.next 2).1,p.2))else p).2:=by
  grind [TK,zt]
 generalize (if D≠[]then (if (p.1.next 2).2=0 then ((((p.1.next 2).1.next D.length).1.next (mJ zt D ((p.1.next 2).1.next D.length).2).ctors.length).1,Q8 (mJ Jm (mJ zt D ((p.1.next 2).1.next D.length).2).ctors (((p.1.next 2).1.next D.length).1.next (mJ zt D ((p.1.next 2).1.next D.length).2).ctors.length).2).name)else ((p.1.next 2).1,p.2))else p)=q at O
 cases d with
 |zero=>exact h0 _ O
 | succ d =>
   have a1:=Af q.1 3;have a2:=Cb q.1 (n:=3) (by omega)
   grind
def Dz(d:Nat)(t:Tp)(D:Z Decl)(N:Z (Z Nat))(cs:Z Ctor)(i:Nat):(kz d t D N cs i).2.length=i:=by
 induction i with
 |zero=>rw[kz];rfl
 |succ i ih=>rw[kz];simp[ih]
def Si (d:Nat) (t:Tp) (D:Z Decl) (N:Z (Z Nat)) (cs:Z Ctor):∀ (i j:Nat) (a:Am),(kz d t D N cs i).2[j]?=some a->∃ t',a=.mk 0 ((cs[j]?).getD Jm).name (kE ((cs[j]?).getD Jm).fields.length) (gJ d t' D (N++kE ((cs[j]?).getD Jm).fields.length)).2
 | 0,j,a,h=>by rw[kz]at h;cases h
 | i + 1,j,a,h=>by
   rw[kz]at h;by_cases hj:j<i
   . rw[jW (by rw[Dz];exact hj)]at h;exact Si d t D N cs i j a h
   . rw[eQ (by rw[Dz];omega),Dz]at h
     have:j-i=0:=by
      cases hh:j-i with
      |zero=>rfl
      |succ k=>rw[hh]at h;cases h
     rw[this]at h;cases h;have:j=i:=by omega
     subst this;exact⟨_,rfl⟩
theorem WH(d:Nat)(t:Tp)(N:Z (Z Nat))(hl:∀ d' t',d=d'+1->P (VN [119] (gJ d' t' D (N++[[119]])).2))(hc:∀ d' t',d=d'+1->N≠[]->∀ dd∈D,∀ n∈N,P (y8 (Ap n) (kz d' t' D N dd.ctors dd.ctors.length).2))(hh:∀ t',P (zo d t' D N).2):P (gJ d t D N).2:=by
 cases d with
 |zero=>rw[gJ];exact hh _
 | succ d =>
   grind [gJ,TK]
theorem zat(t:G):t.valid=true->t.ok=true:=by
 induction t using G.ind with
 | h t ih =>
   intro hv;have ha:=G.Lg hv;refine G.oF.2 ⟨?_,λu hu=>ih u hu (ha u hu)⟩;cases t;unfold G.valid at hv;simp only[G.fC]
   grind
section
variable {I:Nat->Value}{H:Type}{enc:TypeId×Value->H}{P:Program}{d:DataW H}
theorem zi1 {w:World} {base:Nat} {sp:Nat->Bool} {held:Bool} {t e:TypeId}    (ht:P.underlying t=some (.slice e)) (he:P.underlying e=some (.int .i64)) (hp:zee P [t,e]=true)
 (hv:v.cells.toList=[v]) (h:DataW.Trod enc P w base sp held t v d ps):∃ l:Z Int,l.length<=maxLen/\(∀ n∈l,(Lit.int .i64 n).wf=true)/\HR I w (bo.enc l) v:=by
 obtain⟨fuel,hf⟩:=h;rw[hv]at hf;obtain⟨vs,M,O,h3⟩:=TC I hp fuel t _ _ (aD ..) hf
 cases fuel with
 |zero=>exact M.elim
 | succ n =>
   unfold VT at M;rw[ht]at M;rcases M with rfl|⟨es,rfl,hl,gA⟩
   . obtain⟨c,hc,hv⟩:=O.2 0 _ rfl;cases hc;exact⟨[],aW _,(λn hn=>by cases hn),hv.norm⟩
   . obtain⟨c,hc,hv⟩:=O.2 0 _ rfl;cases hc
     have key:∀ es:Z (Z V),(∀ c∈es,VT P n e c)->∃ l:Z Int,es=l.map (λn=>[V.int .i64 n])/\∀ n∈l,(Lit.int .i64 n).wf=true:=by
      intro es
      induction es with
      |nil=>exactλ_=>⟨[],rfl,λn hn=>by cases hn⟩
      | cons c es ih =>
        intro h;obtain⟨l,rfl,hw⟩:=ih λc hc=>h c (aF _ hc)
        have hc:=h c (aD ..)
        cases n with
        |zero=>exact hc.elim
        | succ n =>
          unfold VT at hc;rw[he]at hc;obtain⟨m,rfl,hm⟩:=hc;refine⟨m::l,rfl,λk hk=>?_⟩
          grind
     obtain⟨l,rfl,hw⟩:=key es gA;exact⟨l,by rw[aL]at hl;exact hl,hw,hv⟩
def zkD(h:aT I P f vs ji (.bool true) a8){w:World}{xs:Array Value}
 (hlen:xs.size=vs.length) (hA:∀ (i:Nat) (v:V),vs[i]?=some v->∃ x,xs[i]?=some x/\HR I w v x)
 (hg:Gl I w (λb=>b<w.heap.size):=by exactλv hv=>absurd rfl hv) :
 Calls P f xs w λe w'=>e=.returned (.bool true)/\RowKit.Below w.heap.size w w':=by
 refine callsIn_wide.1 (CallsIn.mono (n:=0) (h (λ_=>False) w (λb=>b<w.heap.size) (λ_ _=>none) xs (R.empty (λ_ h=>h) hg) Ol.empty (pj.no _) ⟨hlen,λi u hi=>?_⟩) λe w' he=>?_)
 . obtain⟨x,hx,hr⟩:=hA i u hi;exact⟨x,hx,.pure hr⟩
 . cases e with
   | returned x =>
     obtain⟨F1,μ1,g1,g2,g3⟩:=he;refine⟨?_,⟨g3.io.1,g3.io.2.1,g3.io.2.2,g3.size,λb hb=>g3.bw b hb (ug b _)⟩⟩
     cases g2 with
     |pure h=>cases h;rfl
   |panicked c=>exact he.elim
   |outgrown=>exact he.elim
def zfH(hl:laidOutB P=true){h2 W':World}(hb:RowKit.Below h2.heap.size h2 W'){sp:Nat->Bool}:∀ {ts:Z TypeId} {vs:Z Value} {ds:Z (DataW H)} {ps:Z MemPlace},(∀ t∈ts,P.readableRec t=true/\t<P.types.size) ->
 DataW.TrodAll enc P h2 0 (λ_=>true) true ts vs ds ps->(∀ p∈ps,p.block<h2.heap.size)->(∀ p∈ps,sp p.block=true)->DataW.TrodAll enc P W' 0 sp true ts vs ds ps:=by
 intro ts
 induction ts with
 |nil=>intro vs ds ps _ h _ _;cases vs<;>cases ds<;>exact h
 | cons t ts ih =>
   intro vs ds ps ht h cC vA;obtain⟨v,jt,d,ds',p,q,rfl,rfl,rfl,M,O⟩:=ChangeShapes.trodAll_cons h;obtain⟨r1,r2⟩:=ht t (aD ..)
   exact⟨p,q,WideElems.Trod_stays hl r1 r2 M (λx hx=>hb.same (cC x (bA.2 (.inl hx)))) (λx hx=>vA x (bA.2 (.inl hx))),
    ih (λt ht'=>ht t (aF _ ht')) O (λx hx=>cC x (bA.2 (.inr hx))) (λx hx=>vA x (bA.2 (.inr hx))),rfl⟩
end
end Go.J
