import Derived.Test.YtocdkgjpdnamlaaGreatJQ
import Derived.Test.YtocdkgjpdnamlaaGreatJW
import Derived.Test.YtocdkgjpdnamlaaGreatJL
set_option linter.all false
noncomputable section
/- Ew of types by iJ: what it computes is a most general unifier. -/
namespace Go.J
open Enc (enc)
abbrev Sub:=Int->Ty
def one(x:Int)(t:Ty):Sub:=fun j=>if j=x then t else aM j
def uX(σ:Sub)(x:Int)(t:Ty):Sub:=fun i=>(σ i).app (one x t)
def pW(x:Int)(t:Ty)(σ:Sub):Option (Int×Sub):=if t.lq x=true then some (12,σ)else some (0,uX σ x t)
def aL (rec:Sub->Ty->Ty->Option (Int×Sub)):List Ty->List Ty->Sub->Option (Int×Sub)
 | x::l,y::m,σ=>match rec σ x y with
   |some (e,σ')=>if e=0 then aL rec l m σ' else some (e,σ')
   |none=>none
 |_,_,σ=>some (0,σ)
def aS(rec:Sub->Ty->Ty->Option (Int×Sub))(σ:Sub)(a b:Ty):Option (Int×Sub) :=
 if a.app σ=b.app σ then some (0,σ)
 else if (a.app σ).kind=1 then pW (a.app σ).id (b.app σ) σ
 else if (b.app σ).kind=1 then pW (b.app σ).id (a.app σ) σ
 else if (a.app σ).same (b.app σ)=true then aL rec (a.app σ).args (b.app σ).args σ
 else some (11,σ)
def uA:Nat->Sub->Ty->Ty->Option (Int×Sub)
 | 0=>fun _ _ _=>none
 |f+1=>aS (uA f)
structure kg(σ:Sub):Prop where
 plain:∀ i,(σ i).ay=true
 idem:∀ i,(σ i).app σ=σ i
def After(σ τ:Sub):Prop:=∀ i,(σ i).app τ=τ i
theorem After.app{σ τ:Sub}(h:After σ τ)(t:Ty):(t.app σ).app τ=t.app τ:=by
 rw[tT];exact oQ t fun j _=>h j
theorem kg.app{σ:Sub}(h:kg σ)(t:Ty):(t.app σ).app σ=t.app σ:=After.app (σ:=σ) (τ:=σ) h.idem t
theorem After.trans{σ τ υ:Sub}(h:After σ τ)(k:After τ υ):After σ υ:=fun i=>by
 rw[<- k.app,h i];exact k i
theorem dP{σ:Sub}(h:∀ i,(σ i).ay=true)(t:Ty):t.ay=true->(t.app σ).ay=true:=by
 induction t using Ty.ind with
 | h t ih =>
   intro hp;rw[jH];split
   . exact h _
   . rename_i hk;have hv:=bS hp;refine o9 hk fun u hu=>?_
     obtain⟨w,hw,rfl⟩:=List.mem_map.1 hu;exact ih w hw (bN.1 hv w hw)
theorem MQ{x:Int}{t u:Ty}(hu:u.ay=true)(h:u.lq x=false):u.app (one x t)=u:=by
 rw[oQ (η:=aM) u fun j hj=>?_]
 . exact Az u hu
 . unfold one;rw[if_neg];intro e;rw[e,h]at hj;cases hj
theorem bL(θ:Sub)(j:Int):(aM j).app θ=θ j:=by rw[jH];exact if_pos rfl
theorem Ul{α:Type}{f:α->α}:∀ {l:List α},l.map f=l->∀ u∈l,f u=u:=by
 intro l
 induction l with
 |nil=>intro _ u hu;cases hu
 | cons a l ih =>
   intro h u hu;rw[List.map_cons,List.cons.injEq]at h;rcases List.mem_cons.1 hu with rfl|hu
   . exact h.1
   . exact ih h.2 u hu
theorem zdw{σ:Sub}{j:Int}(t:Ty):t.app σ=t->t.lq j=true->t.ay=true->σ j=aM j:=by
 induction t using Ty.ind with
 | h t ih =>
   intro hi ho hp;rw[jH]at hi;rw[jB]at ho;by_cases hk:t.kind=1
   . rw[if_pos hk]at hi ho;have e:t.id=j:=of_decide_eq_true ho;rw[<- e,hi];exact bg hp hk
   . rw[if_neg hk]at hi ho;obtain⟨u,hu,zaM⟩:=List.any_eq_true.1 ho;refine ih u hu ?_ zaM (bN.1 (bS hp) u hu);have hm:t.args.map (Ty.app σ)=t.args:=congrArg Ty.args hi;exact Ul hm u hu
theorem Oy{σ:Sub}(h:kg σ){i j:Int}(ho:(σ i).lq j=true):σ j=aM j:=zdw _ (h.idem i) ho (h.plain i)
theorem kg.comp{σ:Sub}(h:kg σ){x:Int}{t:Ty}(hx:σ x=aM x)(ht:t.ay=true)(ZL:t.app σ=t)(ho:t.lq x=false):kg (uX σ x t)/\After σ (uX σ x t)/\uX σ x t x=t:=by
 have hone:∀ i,(one x t i).ay=true:=fun i=>by
  unfold one;split
  . exact ht
  . exact eu _
 have e1:∀ u:Ty,u.app (uX σ x t)=(u.app σ).app (one x t):=fun u=>(tT σ (one x t) u).symm
 have e2:∀ i,((σ i).app (one x t)).app σ=(σ i).app (one x t):=fun i=>by
  rw[tT];refine oQ _ fun j hj=>?_
  unfold one;split
  . exact ZL
  . -- a variable that occurs in an image is free
    rename_i zH6;rw[bL];exact(Oy h hj)
 refine⟨⟨fun i=>dP hone _ (h.plain i),fun i=>?_⟩,fun i=>?_,?_⟩
 . rw[e1];show (((σ i).app (one x t)).app σ).app (one x t)=(σ i).app (one x t);rw[e2,tT];refine oQ _ fun j hj=>?_
   unfold one;split
   . exact MQ ht ho
   . rename_i zH6;rw[bL];exact if_neg zH6
 . rw[e1,h.idem];rfl
 . show (σ x).app (one x t)=t;rw[hx,bL];exact if_pos rfl
theorem eT{θ:Sub}{t:Ty}(hk:t.kind≠1):t.app θ=.mk t.kind t.name t.id t.home (t.args.map (Ty.app θ)):=by rw[jH,if_neg hk]
theorem MP{x:Int}{θ:Sub}(t:Ty):t.lq x=true->(θ x).size<=(t.app θ).size:=by
 induction t using Ty.ind with
 | h t ih =>
   intro ho;rw[jB]at ho;by_cases hk:t.kind=1
   . rw[if_pos hk]at ho;rw[jH,if_pos hk,of_decide_eq_true ho];exact Nat.le_refl _
   . rw[if_neg hk]at ho;obtain⟨u,hu,zaM⟩:=List.any_eq_true.1 ho;have:=ih u hu zaM;rw[eT hk];have h2:=Ty.pG (t:=.mk t.kind t.name t.id t.home (t.args.map (Ty.app θ))) (u:=u.app θ) (List.mem_map.2 ⟨u,hu,rfl⟩);omega
theorem Rq{x:Int}{t:Ty}(hne:t.kind≠1)(ho:t.lq x=true)(θ:Sub):¬ θ x=t.app θ:=by
 intro e;rw[jB,if_neg hne]at ho;obtain⟨u,hu,zaM⟩:=List.any_eq_true.1 ho;have h1:=MP (θ:=θ) u zaM;rw[eT hne]at e;have h2:=Ty.pG (t:=.mk t.kind t.name t.id t.home (t.args.map (Ty.app θ))) (u:=u.app θ) (List.mem_map.2 ⟨u,hu,rfl⟩);rw[<- e]at h2;omega
structure Ey(σ:Sub)(e:Int)(σ':Sub)(P:Sub->Prop):Prop where
 ok:e=0->kg σ'/\After σ σ'/\P σ'
 zmj:∀ θ,After σ θ->P θ->e=0/\After σ' θ
theorem KG{σ:Sub}(h:kg σ){x:Int}{t:Ty}(hx:σ x=aM x)(ht:t.ay=true)(ZL:t.app σ=t)(hne:aM x≠t){e:Int}{σ':Sub}(hr:pW x t σ=some (e,σ')) :
 Ey σ e σ' fun θ=>θ x=t.app θ:=by
 unfold pW at hr;split at hr
 . rename_i ho;cases hr
   have hk:t.kind≠1:=fun hk=>by
    have e:=bg ht hk;rw[jB,if_pos hk]at ho;rw[of_decide_eq_true ho]at e;exact hne e.symm
   exact⟨fun h=>(by cases h),fun θ hA hP=>absurd hP (Rq hk ho θ)⟩
 . rename_i ho;cases hr;have ho':t.lq x=false:=by simpa using ho
   obtain⟨h1,h2,h3⟩:=h.comp hx ht ZL ho';refine⟨fun _=>⟨h1,h2,?_⟩,fun θ hA hP=>⟨rfl,fun i=>?_⟩⟩
   . rw[h3];have e1:t.app (uX σ x t)=(t.app σ).app (one x t):=(tT σ (one x t) t).symm;rw[e1,ZL,MQ ht ho']
   . show ((σ i).app (one x t)).app θ=θ i;rw[tT,<- hA i];refine oQ _ fun j hj=>?_
     unfold one;split
     . rename_i e;rw[e];exact hP.symm
     . exact bL θ j
theorem zpB {rec:Sub->Ty->Ty->Option (Int×Sub)} (hrec:∀ σ a b e σ',kg σ->a.ay=true->b.ay=true->rec σ a b=some (e,σ')->Ey σ e σ' fun θ=>a.app θ=b.app θ) :
 ∀ (l m:List Ty) (σ:Sub) (e:Int) (σ':Sub),l.length=m.length->kg σ->(∀ u∈l,u.ay=true)->(∀ u∈m,u.ay=true)->aL rec l m σ=some (e,σ')->Ey σ e σ' fun θ=>l.map (Ty.app θ)=m.map (Ty.app θ):=by
 intro l
 induction l with
 | nil =>
   intro m σ e σ' hlen h _ _ hr
   cases m with
   |nil=>cases hr;exact⟨fun _=>⟨h,h.idem,rfl⟩,fun θ hA _=>⟨rfl,hA⟩⟩
   |cons y m=>simp at hlen
 | cons x l ih =>
   intro m σ e σ' hlen h hl hm hr
   cases m with
   |nil=>simp at hlen
   | cons y m =>
     rw[aL]at hr
     cases hq:rec σ x y with
     |none=>rw[hq]at hr;cases hr
     | some r =>
       obtain⟨e1,σ1⟩:=r;rw[hq]at hr;have g:=hrec σ x y e1 σ1 h (hl x (List.mem_cons_self ..)) (hm y (List.mem_cons_self ..)) hq;simp only at hr;split at hr
       . rename_i he;obtain⟨i1,i2,i3⟩:=g.ok he;have g2:=ih m σ1 e σ' (by simpa using hlen) i1 (fun u hu=>hl u (List.mem_cons_of_mem _ hu)) (fun u hu=>hm u (List.mem_cons_of_mem _ hu)) hr;refine⟨fun h0=>?_,fun θ hA hP=>?_⟩
         . obtain⟨j1,j2,j3⟩:=g2.ok h0;refine⟨j1,i2.trans j2,?_⟩;rw[List.map_cons,List.map_cons,j3,<- j2.app x,i3,j2.app]
         . rw[List.map_cons,List.map_cons,List.cons.injEq]at hP;exact g2.zmj θ (g.zmj θ hA hP.1).2 hP.2
       . rename_i he;cases hr;refine⟨fun h0=>absurd h0 he,fun θ hA hP=>?_⟩;rw[List.map_cons,List.map_cons,List.cons.injEq]at hP;exact absurd (g.zmj θ hA hP.1).1 he
theorem sP:∀ (f:Nat) (σ:Sub) (a b:Ty) (e:Int) (σ':Sub),kg σ->a.ay=true->b.ay=true->uA f σ a b=some (e,σ')->Ey σ e σ' fun θ=>a.app θ=b.app θ:=by
 intro f
 induction f with
 |zero=>intro σ a b e σ' _ _ _ hr;cases hr
 | succ f ih =>
   intro σ a b e σ' h ha hb hr;have pa:=dP h.plain a ha;have pb:=dP h.plain b hb;have fa:=h.app a;have fb:=h.app b
   have lift:∀ {e σ'},(Ey σ e σ' fun θ=>(a.app σ).app θ=(b.app σ).app θ)->Ey σ e σ' fun θ=>a.app θ=b.app θ:=fun g =>
    ⟨fun h0=>by
      obtain⟨i1,i2,i3⟩:=g.ok h0
      exact⟨i1,i2,by rw[<- i2.app a,<- i2.app b];exact i3⟩,fun θ hA hP=>g.zmj θ hA (by rw[hA.app,hA.app];exact hP)⟩
   rw[uA,aS]at hr;split at hr
   . rename_i heq;cases hr;exact lift ⟨fun _=>⟨h,h.idem,by rw[heq]⟩,fun θ hA _=>⟨rfl,hA⟩⟩
   rename_i hne;apply lift;clear lift;generalize a.app σ=x at *;generalize b.app σ=y at *;split at hr
   . rename_i hk;have ex:=bg pa hk;rw[ex,bL]at fa;have g:=KG h fa pb fb (by rw[<- ex];exact hne) hr;rw[ex];exact⟨fun h0=>by obtain⟨i1,i2,i3⟩:=g.ok h0;exact⟨i1,i2,by rw[bL];exact i3⟩,fun θ hA hP=>g.zmj θ hA (by rw[bL]at hP;exact hP)⟩
   split at hr
   . rename_i hk;have ey:=bg pb hk;rw[ey,bL]at fb;have g:=KG h fb pa fa (by rw[<- ey];exact fun e=>hne e.symm) hr;rw[ey];exact⟨fun h0=>by obtain⟨i1,i2,i3⟩:=g.ok h0;exact⟨i1,i2,by rw[bL];exact i3.symm⟩,fun θ hA hP=>g.zmj θ hA (by rw[bL]at hP;exact hP.symm)⟩
   split at hr
   . rename_i hk1 hk2 hs;have hlen:=(same_iff.1 hs).2.2.2.2;have g:=zpB ih x.args y.args σ e σ' hlen h (bN.1 (bS pa)) (bN.1 (bS pb)) hr;obtain⟨q1,q2,q3,q4,_⟩:=same_iff.1 hs;refine⟨fun h0=>?_,fun θ hA hP=>g.zmj θ hA ?_⟩
     . obtain⟨i1,i2,i3⟩:=g.ok h0;exact⟨i1,i2,by rw[eT hk1,eT hk2,i3,q1,q2,q3,q4]⟩
     . rw[eT hk1,eT hk2]at hP;exact congrArg Ty.args hP
   . rename_i hk1 hk2 hs;cases hr;refine⟨fun h0=>(by cases h0),fun θ hA hP=>?_⟩;rw[eT hk1,eT hk2,Ty.mk.injEq]at hP;refine absurd (same_iff.2 ⟨hP.1,hP.2.1,hP.2.2.1,hP.2.2.2.1,?_⟩) hs;have:=congrArg List.length hP.2.2.2.2;simpa using this
end Go.J
/- Ew by iJ comes to an end. -/
namespace Go.J
open Enc (enc)
theorem Yv {r1 r2:Sub->Ty->Ty->Option (Int×Sub)} (h:∀ σ a b q,r1 σ a b=some q->r2 σ a b=some q):∀ (l m:List Ty) (σ:Sub) (q:Int×Sub),aL r1 l m σ=some q->aL r2 l m σ=some q:=by
 intro l
 induction l with
 |nil=>intro m σ q hq;exact hq
 | cons x l ih =>
   intro m σ q hq
   cases m with
   |nil=>exact hq
   | cons y m =>
     rw[aL]at hq ⊢
     cases hr:r1 σ x y with
     |none=>rw[hr]at hq;cases hq
     | some p =>
       obtain⟨e,σ1⟩:=p;rw[hr]at hq;rw[h _ _ _ _ hr];simp only at hq ⊢;split
       . rename_i he;rw[if_pos he]at hq;exact ih m σ1 q hq
       . rename_i he;rw[if_neg he]at hq;exact hq
theorem znm:∀ (f:Nat) (σ:Sub) (a b:Ty) (q:Int×Sub),uA f σ a b=some q->uA (f+1) σ a b=some q:=by
 intro f
 induction f with
 |zero=>intro σ a b q h;cases h
 | succ f ih =>
   intro σ a b q h;rw[uA,aS]at h ⊢;split
   . rename_i h1;rw[if_pos h1]at h;exact h
   rename_i h1;rw[if_neg h1]at h;split
   . rename_i h2;rw[if_pos h2]at h;exact h
   rename_i h2;rw[if_neg h2]at h;split
   . rename_i h3;rw[if_pos h3]at h;exact h
   rename_i h3;rw[if_neg h3]at h;split
   . rename_i h4;rw[if_pos h4]at h;exact Yv (fun σ a b q hq=>ih σ a b q hq) _ _ _ _ h
   . rename_i h4;rw[if_neg h4]at h;exact h
theorem Tn{f g:Nat}(hfg:f<=g){σ:Sub}{a b:Ty}{q:Int×Sub}(h:uA f σ a b=some q):uA g σ a b=some q:=by
 induction hfg with
 |refl=>exact h
 |step _ ih=>exact znm _ _ _ _ _ ih
section
variable (V:List Int)
open Classical in
def free(σ:Sub):Nat:=V.countP fun i=>decide (σ i=aM i)
def cl(σ:Sub)(u:Ty):Prop:=∀ j,(u.app σ).lq j=true->j∈V
structure Prog(σ σ':Sub):Prop where
 less:σ'=σ\/free V σ'<free V σ
 keep:∀ u,cl V σ u->cl V σ' u
variable {V}
theorem Prog.refl(σ:Sub):Prog V σ σ:=⟨.inl rfl,fun _ h=>h⟩
theorem Prog.trans{a b c:Sub}(h:Prog V a b)(k:Prog V b c):Prog V a c:=by
 refine⟨?_,fun u hu=>k.keep u (h.keep u hu)⟩;rcases h.less with rfl|h1<;>rcases k.less with rfl|h2
 . exact .inl rfl
 . exact .inr h2
 . exact .inr h1
 . exact .inr (Nat.lt_trans h2 h1)
theorem lT(i j:Int):(aM i).lq j=decide (i=j):=by rw[jB];exact if_pos rfl
theorem FD{θ:Sub}{j:Int}(t:Ty):(t.app θ).lq j=true->∃ i,t.lq i=true/\(θ i).lq j=true:=by
 induction t using Ty.ind with
 | h t ih =>
   intro h;by_cases hk:t.kind=1
   . rw[jH,if_pos hk]at h;exact⟨t.id,by rw[jB,if_pos hk];simp,h⟩
   . rw[eT hk,jB]at h;simp only[Ty.dx,Ty.cZ,if_neg hk]at h;obtain⟨u,hu,zaM⟩:=List.any_eq_true.1 h;obtain⟨w,hw,rfl⟩:=List.mem_map.1 hu;obtain⟨i,h1,h2⟩:=ih w hw zaM;exact⟨i,by rw[jB,if_neg hk];exact List.any_eq_true.2 ⟨w,hw,h1⟩,h2⟩
theorem zaa{α:Type}{p q:α->Bool}:∀ {l:List α} {x:α},x∈l->(∀ i,p i=true->q i=true)->p x=false->q x=true->l.countP p<l.countP q:=by
 intro l
 induction l with
 |nil=>intro x hx;cases hx
 | cons a l ih =>
   intro x hx h hp hq;have hle:l.countP p<=l.countP q:=List.countP_mono_left fun i _=>h i
   rw[List.countP_cons,List.countP_cons];rcases List.mem_cons.1 hx with rfl|hx
   . rw[hp,hq];simp;omega
   . have:=ih hx h hp hq
     cases zRx:p a with
     |false=>cases zOE:q a<;>simp<;>omega
     |true=>rw[h a zRx];simp;omega
theorem KF {σ:Sub} (h:kg σ) {x:Int} {t:Ty} (hx:σ x=aM x) (ht:t.ay=true) (ZL:t.app σ=t) (hne:aM x≠t) (zCJ:x∈V) (zCO:∀ j,t.lq j=true->j∈V) (ho:t.lq x=false):Prog V σ (uX σ x t):=by
 obtain⟨h1,h2,h3⟩:=h.comp hx ht ZL ho;refine⟨.inr ?_,fun u hu j hj=>?_⟩
 . unfold free;refine zaa zCJ (fun i hi=>?_) ?_ (decide_eq_true hx)
   . have hi:(σ i).app (one x t)=aM i:=of_decide_eq_true hi;refine decide_eq_true ?_;by_cases hk:(σ i).kind=1
     . have e:=bg (h.plain i) hk;rw[e,bL]at hi;unfold one at hi;split at hi
       . rename_i ej;exfalso;rw[hi,bL,e,ej]at ZL;exact hne (by rw[hi];exact ZL)
       . rw[e,hi]
     . rw[eT hk]at hi;exact absurd (congrArg Ty.kind hi) hk
   . refine decide_eq_false fun e=>hne ?_
     rw[h3]at e;exact e.symm
 . have e:u.app (uX σ x t)=(u.app σ).app (one x t):=(tT σ (one x t) u).symm;rw[e]at hj;obtain⟨i,hi,hj⟩:=FD _ hj;unfold one at hj;split at hj
   . exact zCO j hj
   . rw[lT]at hj;have:i=j:=of_decide_eq_true hj;exact hu j (this ▸ hi)
theorem IC{σ:Sub}(h:kg σ){x:Int}{t:Ty}(hx:σ x=aM x)(ht:t.ay=true)(ZL:t.app σ=t)(hne:aM x≠t)(zCJ:x∈V)(zCO:∀ j,t.lq j=true->j∈V){e:Int}{σ':Sub}(hr:pW x t σ=some (e,σ')):Prog V σ σ':=by
 unfold pW at hr;split at hr
 . cases hr;exact .refl σ
 . rename_i ho;cases hr;exact KF h hx ht ZL hne zCJ zCO (by simpa using ho)
theorem zpA {rec:Sub->Ty->Ty->Option (Int×Sub)} (hgood:∀ σ a b e σ',kg σ->a.ay=true->b.ay=true->rec σ a b=some (e,σ')->Ey σ e σ' fun θ=>a.app θ=b.app θ)
 (hrec:∀ σ a b e σ',kg σ->a.ay=true->b.ay=true->cl V σ a->cl V σ b->rec σ a b=some (e,σ')->Prog V σ σ') :
 ∀ (l m:List Ty) (σ:Sub) (e:Int) (σ':Sub),kg σ->(∀ u∈l,u.ay=true/\cl V σ u)->(∀ u∈m,u.ay=true/\cl V σ u)->aL rec l m σ=some (e,σ')->Prog V σ σ':=by
 intro l
 induction l with
 |nil=>intro m σ e σ' h _ _ hr;cases hr;exact .refl _
 | cons x l ih =>
   intro m σ e σ' h hl hm hr
   cases m with
   |nil=>cases hr;exact .refl _
   | cons y m =>
     rw[aL]at hr
     cases hq:rec σ x y with
     |none=>rw[hq]at hr;cases hr
     | some r =>
       obtain⟨e1,σ1⟩:=r;rw[hq]at hr;obtain⟨x1,x2⟩:=hl x (List.mem_cons_self ..);obtain⟨y1,y2⟩:=hm y (List.mem_cons_self ..);have g:=hgood σ x y e1 σ1 h x1 y1 hq;have p:=hrec σ x y e1 σ1 h x1 y1 x2 y2 hq;simp only at hr;split at hr
       . rename_i he;obtain⟨i1,_,_⟩:=g.ok he;exact p.trans (ih m σ1 e σ' i1 (fun u hu=>⟨(hl u (List.mem_cons_of_mem _ hu)).1,p.keep u (hl u (List.mem_cons_of_mem _ hu)).2⟩) (fun u hu=>⟨(hm u (List.mem_cons_of_mem _ hu)).1,p.keep u (hm u (List.mem_cons_of_mem _ hu)).2⟩) hr)
       . cases hr;exact p
theorem xR{σ:Sub}{t:Ty}(hk:t.kind≠1)(h:cl V σ t):∀ u∈t.args,cl V σ u:=fun u hu j hj=>h j (by
 rw[eT hk,jB];simp only[Ty.dx,Ty.cZ,if_neg hk]
 exact List.any_eq_true.2 ⟨_,List.mem_map.2 ⟨u,hu,rfl⟩,hj⟩)
theorem KX:∀ (f:Nat) (σ:Sub) (a b:Ty) (e:Int) (σ':Sub),kg σ->a.ay=true->b.ay=true->cl V σ a->cl V σ b->uA f σ a b=some (e,σ')->Prog V σ σ':=by
 intro f
 induction f with
 |zero=>intro σ a b e σ' _ _ _ _ _ hr;cases hr
 | succ f ih =>
   intro σ a b e σ' h ha hb ca cb hr;have pa:=dP h.plain a ha;have pb:=dP h.plain b hb;have fa:=h.app a;have fb:=h.app b;rw[uA,aS]at hr;have zwv:cl V σ (a.app σ):=fun j hj=>ca j (by rw[h.app]at hj;exact hj)
   have cb':cl V σ (b.app σ):=fun j hj=>cb j (by rw[h.app]at hj;exact hj)
   split at hr
   . cases hr;exact .refl _
   rename_i hne;generalize a.app σ=x at *;generalize b.app σ=y at *;have ox:∀ j,x.lq j=true->j∈V:=fun j hj=>zwv j (by rw[fa];exact hj)
   have oy:∀ j,y.lq j=true->j∈V:=fun j hj=>cb' j (by rw[fb];exact hj)
   split at hr
   . rename_i hk;have ex:=bg pa hk;rw[ex,bL]at fa;exact IC h fa pb fb (by rw[<- ex];exact hne) (ox _ (by rw[ex,lT];simp[aM])) oy hr
   split at hr
   . rename_i hk;have ey:=bg pb hk;rw[ey,bL]at fb;exact IC h fb pa fa (by rw[<- ey];exact fun e=>hne e.symm) (oy _ (by rw[ey,lT];simp[aM])) ox hr
   split at hr
   . rename_i hk1 hk2 hs;exact zpA (sP f) ih x.args y.args σ e σ' h (fun u hu=>⟨bN.1 (bS pa) u hu,xR hk1 zwv u hu⟩) (fun u hu=>⟨bN.1 (bS pb) u hu,xR hk2 cb' u hu⟩) hr
   . cases hr;exact .refl _
theorem Tq:∀ (N M:Nat) (σ:Sub) (a b:Ty),kg σ->a.ay=true->b.ay=true->cl V σ a->cl V σ b->free V σ<=N->(a.app σ).size<=M->∃ f q,uA f σ a b=some q:=by
 intro N
 induction N using Nat.strongRecOn with
 | _ N zRd =>
   intro M
   induction M with
   |zero=>intro σ a b _ _ _ _ _ _ hM;have:=Ty.size_pos (a.app σ);omega
   | succ M zRe =>
     intro σ a b h ha hb ca cb hN hM;by_cases h1:a.app σ=b.app σ
     . exact⟨1,_,by rw[uA,aS,if_pos h1]⟩
     by_cases h2:(a.app σ).kind=1
     . by_cases ho:(b.app σ).lq (a.app σ).id=true
       . exact⟨1,_,by rw[uA,aS,if_neg h1,if_pos h2,pW,if_pos ho]⟩
       . exact⟨1,_,by rw[uA,aS,if_neg h1,if_pos h2,pW,if_neg ho]⟩
     by_cases h3:(b.app σ).kind=1
     . by_cases ho:(a.app σ).lq (b.app σ).id=true
       . exact⟨1,_,by rw[uA,aS,if_neg h1,if_neg h2,if_pos h3,pW,if_pos ho]⟩
       . exact⟨1,_,by rw[uA,aS,if_neg h1,if_neg h2,if_pos h3,pW,if_neg ho]⟩
     by_cases h4:(a.app σ).same (b.app σ)=true
     case neg=>exact⟨1,_,by rw[uA,aS,if_neg h1,if_neg h2,if_neg h3,if_neg h4]⟩
     have pa:=dP h.plain a ha;have pb:=dP h.plain b hb;have fa:=h.app a;have zwv:cl V σ (a.app σ):=fun j hj=>ca j (by rw[h.app]at hj;exact hj)
     have cb':cl V σ (b.app σ):=fun j hj=>cb j (by rw[h.app]at hj;exact hj)
     have key:∀ (l m:List Ty) (τ:Sub),kg τ->Prog V σ τ->(∀ u∈l,u.ay=true/\cl V σ u/\u.app σ=u/\u.size<=M)->(∀ u∈m,u.ay=true/\cl V σ u)->∃ f q,aL (uA f) l m τ=some q:=by
      intro l
      induction l with
      |nil=>intro m τ _ _ _ _;exact⟨0,_,rfl⟩
      | cons x l ihl =>
        intro m τ hτ hp hl hm
        cases m with
        |nil=>exact⟨0,_,rfl⟩
        | cons y m =>
          obtain⟨x1,x2,x3,x4⟩:=hl x (List.mem_cons_self ..);obtain⟨y1,y2⟩:=hm y (List.mem_cons_self ..)
          have hone:∃ f q,uA f τ x y=some q:=by
           rcases hp.less with rfl|hlt
           . exact zRe τ x y hτ x1 y1 x2 y2 hN (by rw[x3];exact x4)
           . exact zRd (free V τ) (by omega) (x.app τ).size τ x y hτ x1 y1 (hp.keep x x2) (hp.keep y y2) (Nat.le_refl _) (Nat.le_refl _)
          obtain⟨f1,⟨e1,τ1⟩,hf1⟩:=hone;by_cases he:e1=0
          . have g:=sP f1 τ x y e1 τ1 hτ x1 y1 hf1;have p:=KX f1 τ x y e1 τ1 hτ x1 y1 (hp.keep x x2) (hp.keep y y2) hf1;obtain⟨f2,q,hf2⟩:=ihl m τ1 (g.ok he).1 (hp.trans p) (fun u hu=>hl u (List.mem_cons_of_mem _ hu)) (fun u hu=>hm u (List.mem_cons_of_mem _ hu));refine⟨max f1 f2,q,?_⟩;rw[aL,Tn (Nat.le_max_left f1 f2) hf1];simp only[if_pos he];exact Yv (fun σ a b q hq=>Tn (Nat.le_max_right f1 f2) hq) _ _ _ _ hf2
          . exact⟨f1,(e1,τ1),by rw[aL,hf1];simp only[if_neg he]⟩
     obtain⟨f,q,hf⟩:=key (a.app σ).args (b.app σ).args σ h (.refl σ) (fun u hu=>⟨bN.1 (bS pa) u hu,xR h2 zwv u hu,by
      rw[eT h2]at fa
      exact Ul (congrArg Ty.args fa) u hu,by have:=Ty.pG hu;omega⟩) (fun u hu=>⟨bN.1 (bS pb) u hu,xR h3 cb' u hu⟩)
     exact⟨f+1,q,by rw[uA,aS,if_neg h1,if_neg h2,if_neg h3,if_pos h4];exact hf⟩
end
end Go.J
/- The fQ unification of MH 15 is unification by iJ. -/
namespace Go.J
open Enc (enc)
def LD(x:Int)(t:Ty):List Assign:=[⟨x,t⟩]
def Fb(s:List Assign)(x:Int)(t:Ty):List Assign:=(s.map fun a=>⟨a.id,a.type.dZ (LD x t)⟩)++(if qo s x=true then []else LD x t)
def Ju(x:Int)(t:Ty)(s:List Assign):Option (Int×List Assign):=if t.lq x=true then some (12,[])else some (0,Fb s x t)
def rL (rec:Ty->Ty->List Assign->Option (Int×List Assign)):List Ty->List Ty->List Assign->Option (Int×List Assign)
 | x::l,y::m,s=>match rec x y s with
   |some (e,s')=>if e=0 then rL rec l m s' else some (e,[])
   |none=>none
 |_,_,s=>some (0,s)
def rS(rec:Ty->Ty->List Assign->Option (Int×List Assign))(a b:Ty)(s:List Assign):Option (Int×List Assign) :=
 if a.dZ s=b.dZ s then some (0,s)
 else if (a.dZ s).kind=1 then Ju (a.dZ s).id (b.dZ s) s
 else if (b.dZ s).kind=1 then Ju (b.dZ s).id (a.dZ s) s
 else if (a.dZ s).same (b.dZ s)=true then rL rec (a.dZ s).args (b.dZ s).args s
 else some (11,[])
def IY:Nat->Ty->Ty->List Assign->Option (Int×List Assign)
 | 0=>fun _ _ _=>none
 |f+1=>rS (IY f)
def J5(s:List Assign):Prop:=∀ a∈s,a.type.ay=true
theorem Kg{s:List Assign}(h:J5 s)(i:Int):(jq s i).ay=true:=by
 unfold jq
 cases hl:bW s i with
 |none=>exact eu i
 | some t =>
   obtain⟨a,ha,rfl⟩:=yI hl;exact h a ha
theorem Mo(x:Int)(t:Ty):jq (LD x t)=one x t:=by
 grind [jq,LD,one,bW]
theorem zcV{s:List Assign}{f:Ty->Ty}(i:Int):bW (s.map fun a=>⟨a.id,f a.type⟩) i=(bW s i).map f:=by
 induction s with
 |nil=>rfl
 | cons a s ih =>
   grind [bW]
theorem Yk{s:List Assign}(hs:J5 s)(x:Int)(t:Ty):jq (Fb s x t)=uX (jq s) x t:=by
 funext i
 unfold uX;have h1:jq (Fb s x t) i=((bW (Fb s x t) i).getD (aM i)):=rfl;rw[h1];unfold Fb;rw[jC,zcV]
 cases hl:bW s i with
 | some u =>
   obtain⟨a,ha,rfl⟩:=yI hl;have h2:jq s i=a.type:=by unfold jq;rw[hl];rfl
   rw[h2];show (a.type.dZ (LD x t))=_;rw[kJ _ _ (hs a ha),Mo]
 | none =>
   grind [jq,aM,bL,bW,qo,LD,one,BK,Mo]
theorem zkS{s:List Assign}(hs:J5 s){x:Int}{t:Ty}(ht:t.ay=true):J5 (Fb s x t):=by
 intro a ha;unfold Fb at ha
 have hone:∀ i,(one x t i).ay=true:=fun i=>by
  grind [one,eu]
 rcases List.mem_append.1 ha with ha|ha
 . obtain⟨b,hb,rfl⟩:=List.mem_map.1 ha;show (b.type.dZ (LD x t)).ay=true;rw[kJ _ _ (hs b hb),Mo];exact dP hone _ (hs b hb)
 . split at ha
   . cases ha
   . rw[List.mem_singleton.1 ha];exact ht
def zpC(r:Option (Int×List Assign))(q:Option (Int×Sub)):Prop:=match r,q with
 |none,none=>True
 |some (e,s),some (e',σ)=>e=e'/\(e=0->jq s=σ/\J5 s)
 |_,_=>False
theorem Ua{s:List Assign}(hs:J5 s){x:Int}{t:Ty}(ht:t.ay=true):zpC (Ju x t s) (pW x t (jq s)):=by
 unfold Ju pW;split
 . exact⟨rfl,fun h=>by cases h⟩
 . exact⟨rfl,fun _=>⟨Yk hs x t,zkS hs ht⟩⟩
theorem ztM {rec:Ty->Ty->List Assign->Option (Int×List Assign)} {znX:Sub->Ty->Ty->Option (Int×Sub)} (hrec:∀ a b s,J5 s->a.ay=true->b.ay=true->zpC (rec a b s) (znX (jq s) a b)) :
 ∀ (l m:List Ty) (s:List Assign),J5 s->(∀ u∈l,u.ay=true)->(∀ u∈m,u.ay=true)->zpC (rL rec l m s) (aL znX l m (jq s)):=by
 intro l
 induction l with
 |nil=>intro m s hs _ _;exact⟨rfl,fun _=>⟨rfl,hs⟩⟩
 | cons x l ih =>
   intro m s hs hl hm
   cases m with
   |nil=>exact⟨rfl,fun _=>⟨rfl,hs⟩⟩
   | cons y m =>
     have h1:=hrec x y s hs (hl x (List.mem_cons_self ..)) (hm y (List.mem_cons_self ..));rw[rL,aL]
     cases hr:rec x y s with
     | none =>
       rw[hr]at h1
       cases hq:znX (jq s) x y with
       |none=>exact trivial
       |some q=>rw[hq]at h1;exact h1.elim
     | some r =>
       obtain⟨e,s'⟩:=r;rw[hr]at h1
       cases hq:znX (jq s) x y with
       |none=>rw[hq]at h1;exact h1.elim
       | some q =>
         obtain⟨e',σ'⟩:=q;rw[hq]at h1;obtain⟨rfl,h2⟩:=h1;simp only;by_cases he:e=0
         . grind
         . rw[if_neg he,if_neg he];exact⟨rfl,fun h=>absurd h he⟩
theorem zcb:∀ (f:Nat) (a b:Ty) (s:List Assign),J5 s->a.ay=true->b.ay=true->zpC (IY f a b s) (uA f (jq s) a b):=by
 intro f
 induction f with
 |zero=>intro a b s _ _ _;exact trivial
 | succ f ih =>
   intro a b s hs ha hb;rw[IY,rS,uA,aS,kJ s a ha,kJ s b hb];have pa:=dP (Kg hs) a ha;have pb:=dP (Kg hs) b hb;generalize a.app (jq s)=x at *;generalize b.app (jq s)=y at *;split
   . exact⟨rfl,fun _=>⟨rfl,hs⟩⟩
   split
   . exact Ua hs pb
   split
   . exact Ua hs pa
   split
   . grind [ztM,bN,bS]
   . exact⟨rfl,fun h=>by cases h⟩
theorem uO:kg aM:=⟨eu,fun i=>bL _ i⟩
theorem tK:jq []=aM:=rfl
theorem znN {a b:Ty} (ha:a.ay=true) (hb:b.ay=true):∃ f e s,IY f a b []=some (e,s)/\Ey aM e (jq s) (fun θ=>a.app θ=b.app θ)/\(e=0->J5 s):=by
 classical
 have hfin : ∀ t:Ty,∃ V:List Int,∀ j,t.lq j=true->j∈V:=by
  intro t
  induction t using Ty.ind with
  | h t ih =>
    by_cases hk:t.kind=1
    . refine⟨[t.id],fun j hj=>?_⟩
      grind [jB,List.mem_singleton_self]
    . have:∀ l:List Ty,(∀ u∈l,∃ V:List Int,∀ j,u.lq j=true->j∈V)->∃ V:List Int,∀ u∈l,∀ j,u.lq j=true->j∈V:=by
       intro l
       induction l with
       |nil=>intro _;exact⟨[],fun u hu=>by cases hu⟩
       | cons x l ih2 =>
         intro h;obtain⟨V1,h1⟩:=h x (List.mem_cons_self ..);obtain⟨V2,h2⟩:=ih2 fun u hu=>h u (List.mem_cons_of_mem _ hu)
         refine⟨V1++V2,fun u hu j hj=>?_⟩
         grind
      obtain⟨V,hV⟩:=this t.args ih;refine⟨V,fun j hj=>?_⟩
      grind [jB,List.any_eq_true]
 obtain⟨V1,h1⟩:=hfin a;obtain⟨V2,h2⟩:=hfin b;have ca:cl (V1++V2) aM a:=fun j hj=>List.mem_append_left _ (h1 j (by rw[Az a ha]at hj;exact hj))
 have cb:cl (V1++V2) aM b:=fun j hj=>List.mem_append_right _ (h2 j (by rw[Az b hb]at hj;exact hj))
 obtain⟨f,⟨e,σ⟩,hf⟩:=Tq (V:=V1++V2) _ _ aM a b uO ha hb ca cb (Nat.le_refl _) (Nat.le_refl _);have g:=sP f aM a b e σ uO ha hb hf;have zc8:=zcb f a b [] (fun a h=>by cases h) ha hb;rw[tK,hf]at zc8
 cases hr:IY f a b []with
 |none=>rw[hr]at zc8;exact zc8.elim
 | some r =>
   obtain⟨e',s⟩:=r;rw[hr]at zc8;obtain⟨rfl,h3⟩:=zc8;refine⟨f,e',s,hr,?_,fun h=>(h3 h).2⟩;by_cases he:e'=0
   . grind
   . exact⟨fun h=>absurd h he,fun θ hA hP=>absurd (g.zmj θ hA hP).1 he⟩
end Go.J
/- zFO in FU form. -/
namespace Go.J
open Enc (enc)
inductive zlq:List Assign->Sub->Prop
 |nil:zlq [] aM
 |snoc {T:List Assign} {σ:Sub} {x:Int} {t:Ty}:zlq T σ->bW T x=none->t.ay=true->(t.app σ).lq x=false->zlq (T++[⟨x,t⟩]) (uX σ x (t.app σ))
theorem xA{x:Int}{t:Ty}(i:Int):bW [⟨x,t⟩] i=if x=i then some t else none:=by rw[bW];rfl
structure zFR(T:List Assign)(σ:Sub):Prop where
 idem:kg σ
 free:∀ i,bW T i=none->σ i=aM i
 res:∀ i u,bW T i=some u->u.ay=true/\σ i=u.app σ
theorem zlq.props {T:List Assign} {σ:Sub} (h:zlq T σ):zFR T σ:=by
 induction h with
 |nil=>exact⟨uO,fun i _=>rfl,fun i u h=>by cases h⟩
 | @snoc T σ x t h hx ht ho ih =>
   have zRj:=ih.free x hx;have htp:=dP ih.idem.plain t ht;have zOD:=ih.idem.app t;obtain⟨h1,h2,h3⟩:=ih.idem.comp zRj htp zOD ho;have e1:∀ u:Ty,u.app (uX σ x (t.app σ))=(u.app σ).app (one x (t.app σ)):=fun u=>(tT σ (one x (t.app σ)) u).symm
   refine⟨h1,fun i hi=>?_,fun i u hi=>?_⟩
   . rw [jC,xA]at hi
     cases hl:bW T i with
     |some u=>rw[hl]at hi;cases hi
     | none =>
       rw[hl]at hi;by_cases e:x=i
       . grind
       . show (σ i).app (one x (t.app σ))=aM i;rw[ih.free i hl,bL];exact if_neg fun e'=>e e'.symm
   . rw[jC,xA]at hi
     cases hl:bW T i with
     | some v =>
       rw[hl]at hi;cases hi;obtain⟨g1,g2⟩:=ih.res i u hl;exact⟨g1,by rw[e1,<- g2];rfl⟩
     | none =>
       grind [MQ]
def zao(T:List Assign)(u t:Ty):Prop:=(t.kind=1/\bW T t.id=some u)\/(t.kind≠1/\u∈t.args)
inductive MW (T:List Assign) (x:Int):Ty->Prop
 |here {t:Ty}:t.kind=1->t.id=x->MW T x t
 |down {t u:Ty}:zao T u t->MW T x u->MW T x t
theorem Ca{σ:Sub}{t:Ty}(hk:t.kind=1):t.app σ=σ t.id:=by rw[jH,if_pos hk]
theorem GI{t:Ty}(hk:t.kind≠1)(j:Int):t.lq j=t.args.any (Ty.lq j):=by rw[jB,if_neg hk]
theorem MW.lq{T:List Assign}{σ:Sub}(h:zFR T σ){x:Int}(hx:bW T x=none){t:Ty}(hr:MW T x t):(t.app σ).lq x=true:=by
 induction hr with
 |here hk hi=>rw[Ca hk,hi,h.free x hx,lT];simp
 | @down t u hb _ ih =>
   rcases hb with⟨hk,hl⟩|⟨hk,hu⟩
   . rw[Ca hk,(h.res _ _ hl).2];exact ih
   . rw[eT hk,jB];simp only[Ty.dx,Ty.cZ,if_neg hk];exact List.any_eq_true.2 ⟨_,List.mem_map.2 ⟨u,hu,rfl⟩,ih⟩
theorem zlq.acc {T:List Assign} {σ:Sub} (h:zlq T σ):∀ t:Ty,Acc (zao T) t:=by
 induction h with
 | nil =>
   intro t
   induction t using Ty.ind with
   | h t ih =>
     refine⟨_,fun u hu=>?_⟩;rcases hu with⟨_,hl⟩|⟨_,hu⟩
     . cases hl
     . exact ih u hu
 | @snoc T σ x t h hx ht ho ih =>
   have hP:=h.props;have hnr:¬ MW T x t:=fun hr=>by rw[hr.lq hP hx]at ho;cases ho
   have hlk:∀ i,i≠x->bW (T++[⟨x,t⟩]) i=bW T i:=fun i hi=>by
    rw[jC,xA,if_neg fun e=>hi e.symm];cases bW T i<;>rfl
   have key:∀ u,Acc (zao T) u->¬ MW T x u->Acc (zao (T++[⟨x,t⟩])) u:=by
    intro u hu
    induction hu with
    | intro u _ zKZ =>
      intro hr;refine⟨_,fun v hv=>?_⟩
      have hv':zao T v u:=by
       rcases hv with⟨hk,hl⟩|h2
       . rw[hlk u.id fun e=>hr (.here hk e)]at hl;exact .inl ⟨hk,hl⟩
       . exact .inr h2
      exact zKZ v hv' fun hh=>hr (.down hv' hh)
   have zH2:=key t (ih t) hnr;intro u;have hu:=ih u
   induction hu with
   | intro u _ zKZ =>
     refine⟨_,fun v hv=>?_⟩;by_cases zCM:u.kind=1/\u.id=x
     . rcases hv with⟨_,hl⟩|⟨hk,_⟩
       . rw[zCM.2,jC,hx,xA,if_pos rfl]at hl;cases hl;exact zH2
       . exact absurd zCM.1 hk
     . refine zKZ v ?_;rcases hv with⟨hk,hl⟩|h2
       . rw[hlk u.id fun e=>zCM ⟨hk,e⟩]at hl;exact .inl ⟨hk,hl⟩
       . exact .inr h2
inductive Wk (T:List Assign):Ty->Ty->Nat->Prop
 |stop {t:Ty}:(t.kind=1->bW T t.id=none)->Wk T t t 0
 |step {t u r:Ty} {n:Nat}:t.kind=1->bW T t.id=some u->Wk T u r n->Wk T t r (n+1)
theorem Wk.uniq{T:List Assign}{t r r':Ty}{n n':Nat}(h:Wk T t r n):Wk T t r' n'->r'=r/\n'=n:=by
 induction h generalizing r' n' with
 | stop h =>
   intro h'
   cases h' with
   |stop _=>exact⟨rfl,rfl⟩
   |step hk hl _=>rw[h hk]at hl;cases hl
 | step hk hl _ ih =>
   intro h'
   cases h' with
   |stop h=>rw[h hk]at hl;cases hl
   | step _ hl' h' =>
     grind
theorem zlq.walk {T:List Assign} {σ:Sub} (h:zlq T σ) (t:Ty):t.ay=true->∃ r n,Wk T t r n/\r.ay=true/\r.app σ=t.app σ/\(r.kind=1->bW T r.id=none):=by
 have hP:=h.props;have ha:=h.acc t
 induction ha with
 | intro t _ ih =>
   intro ht;by_cases hk:t.kind=1
   . cases hl:bW T t.id with
     |none=>exact⟨t,0,.stop fun _=>hl,ht,rfl,fun _=>hl⟩
     | some u =>
       obtain⟨g1,g2⟩:=hP.res _ _ hl;obtain⟨r,n,h1,h2,h3,h4⟩:=ih u (.inl ⟨hk,hl⟩) g1;exact⟨r,n+1,.step hk hl h1,h2,by rw[h3,Ca hk,g2],h4⟩
   . exact⟨t,0,.stop fun h=>absurd h hk,ht,rfl,fun h=>absurd h hk⟩
end Go.J
/- The search for a variable in a FU form. -/
namespace Go.J
open Enc (enc)
theorem MW.gen{T:List Assign}{x:Int}{u:Ty}(hl:bW T x=some u){v:Ty}(h:MW T x v):Relation.TransGen (zao T) u v:=by
 induction h with
 |here hk hi=>exact .single (.inl ⟨hk,by rw[hi];exact hl⟩)
 |down hb _ ih=>exact .tail ih hb
end Go.J
/- The zte unification is unification by iJ. -/
namespace Go.J
open Enc (enc)
def tL (rec:List Assign->Ty->Ty->Option (Int×List Assign)):List Ty->List Ty->List Assign->Option (Int×List Assign)
 | x::l,y::m,T=>match rec T x y with
   |some (e,T')=>if e=0 then tL rec l m T' else some (e,T')
   |none=>none
 |_,_,T=>some (0,T)
def tS(rec:List Assign->Ty->Ty->Option (Int×List Assign))(bn:List Assign->Int->Ty->Option (Int×List Assign))(T:List Assign)(x y:Ty):Option (Int×List Assign) :=
 if x.kind=1/\y.kind=1/\x.id=y.id then some (0,T)
 else if x.kind=1 then bn T x.id y
 else if y.kind=1 then bn T y.id x
 else if x.same y=true then tL rec x.args y.args T
 else some (11,T)
theorem BB{σ:Sub}{t:Ty}(hk:t.kind≠1):(t.app σ).kind≠1:=by rw[eT hk];exact hk
theorem zby{f:Nat}{σ τ:Sub}(h:After σ τ)(a b:Ty):uA f τ (a.app σ) (b.app σ)=uA f τ a b:=by
 cases f with
 |zero=>rfl
 |succ f=>rw[uA,aS,aS,h.app,h.app]
end Go.J
/- KJ a FU form;what is found are most general zAQ. -/
namespace Go.J
open Enc (enc)
theorem zlq.bound {T:List Assign} {σ:Sub} (h:zlq T σ):∀ j,bW T j≠none->σ j≠aM j:=by
 induction h with
 |nil=>intro j hj;exact absurd rfl hj
 | @snoc T σ x t h hx ht ho ih =>
   intro j hj he;have hP:=h.props;have zOD:=hP.idem.app t;have he:(σ j).app (one x (t.app σ))=aM j:=he;by_cases zH6:j=x
   . subst zH6;rw[hP.free j hx,bL]at he
     grind [aM,one,lT]
   . have hj2:bW T j≠none:=by
      grind [jC,xA,bW]
     by_cases hk:(σ j).kind=1
     . have e:=bg (hP.idem.plain j) hk
       grind [bL,one]
     . rw[eT hk]at he;exact hk (congrArg Ty.kind he)
end Go.J
/- What the laws on unification say. -/
namespace Go.J
open Enc (enc)
theorem OJ(out:List Int)(t:Ty)(j:Int):j∈mq out t↔j∈out\/(t.kind=1/\t.id=j):=by
 unfold mq
 grind
theorem GX{l:List Ty}(h:∀ t∈l,∀ (out:List Int) (j:Int),j∈Dm t out↔j∈out\/t.lq j=true):∀ (out:List Int) (j:Int),j∈qK l out↔j∈out\/∃ t∈l,t.lq j=true:=by
 induction l with
 |nil=>intro out j;simp[qK]
 | cons t l ih =>
   grind [qK,List.mem_cons_of_mem,List.mem_cons_self]
theorem zcP(t:Ty):t.ay=true->∀ (out:List Int) (j:Int),j∈Dm t out↔j∈out\/t.lq j=true:=by
 induction t using Ty.ind with
 | h t ih =>
   intro hp out j;have hv:=bN.1 (bS hp);rw[zpe,GX (fun u hu=>ih u hu (hv u hu)),OJ,jB];by_cases hk:t.kind=1
   . have e:=bg hp hk;have ha:t.args=[]:=by rw[e];rfl
     grind
   grind
theorem rY{l:List Ty}(hl:∀ t∈l,t.ay=true)(j:Int):j∈ji l↔∃ t∈l,t.lq j=true:=by
 grind [YM,rJ,bN,GX,zcP]
end Go.J
/- KJ is determined;the assignments of a list of variables;how long the fQ substitution becomes. -/
namespace Go.J
open Enc (enc)
section
variable {V:List Int}
def Len(V:List Int)(s s':List Assign):Prop:=s.length<=s'.length/\s'.length+free V (jq s')<=s.length+free V (jq s)
theorem zkT(s:List Assign)(x:Int)(t:Ty):s.length<=(Fb s x t).length/\(Fb s x t).length<=s.length+1:=by
 grind [Fb,List.length_append,List.length_map,LD]
theorem Ub{s:List Assign}(hs:J5 s)(hi:kg (jq s)){x:Int}{t:Ty}(hx:jq s x=aM x)(ht:t.ay=true)(ZL:t.app (jq s)=t)(hne:aM x≠t)(zCJ:x∈V)(zCO:∀ j,t.lq j=true->j∈V){s':List Assign}(hr:Ju x t s=some (0,s')):Len V s s':=by
 unfold Ju at hr;split at hr
 . cases hr
 . rename_i ho;cases hr;have hl:=zkT s x t;refine⟨hl.1,?_⟩;have hp:=KF hi hx ht ZL hne zCJ zCO (by simpa using ho);rw[Yk hs x t];rcases hp.less with e|h
   . exfalso;have h3:=(hi.comp hx ht ZL (by simpa using ho)).2.2
     simp_all
   . omega
theorem ztN {rec:Ty->Ty->List Assign->Option (Int×List Assign)} (hgood:∀ a b s e s',J5 s->kg (jq s)->a.ay=true->b.ay=true->rec a b s=some (e,s')->e=0->J5 s'/\kg (jq s'))
 (hprog:∀ a b s s',J5 s->kg (jq s)->a.ay=true->b.ay=true->cl V (jq s) a->cl V (jq s) b->rec a b s=some (0,s')->∀ u,cl V (jq s) u->cl V (jq s') u)
 (hrec:∀ a b s s',J5 s->kg (jq s)->a.ay=true->b.ay=true->cl V (jq s) a->cl V (jq s) b->rec a b s=some (0,s')->Len V s s') :
 ∀ (l m:List Ty) (s s':List Assign),J5 s->kg (jq s)->(∀ u∈l,u.ay=true/\cl V (jq s) u)->(∀ u∈m,u.ay=true/\cl V (jq s) u)->rL rec l m s=some (0,s')->Len V s s':=by
 intro l
 induction l with
 |nil=>intro m s s' _ _ _ _ h;cases h;exact⟨Nat.le_refl _,Nat.le_refl _⟩
 | cons x l ih =>
   intro m s s' hs hi hl hm h
   cases m with
   |nil=>cases h;exact⟨Nat.le_refl _,Nat.le_refl _⟩
   | cons y m =>
     rw[rL]at h
     cases hr:rec x y s with
     |none=>rw[hr]at h;cases h
     | some p =>
       obtain⟨e,s1⟩:=p;rw[hr]at h;simp only at h;by_cases he:e=0
       . subst he;rw[if_pos rfl]at h;have hx:=hl x (List.mem_cons_self ..);have hy:=hm y (List.mem_cons_self ..);obtain⟨g1,g2⟩:=hgood x y s 0 s1 hs hi hx.1 hy.1 hr rfl;have k:=hprog x y s s1 hs hi hx.1 hy.1 hx.2 hy.2 hr;have q1:=hrec x y s s1 hs hi hx.1 hy.1 hx.2 hy.2 hr;have q2:=ih m s1 s' g1 g2 (fun u hu=>⟨(hl u (List.mem_cons_of_mem _ hu)).1,k u (hl u (List.mem_cons_of_mem _ hu)).2⟩) (fun u hu=>⟨(hm u (List.mem_cons_of_mem _ hu)).1,k u (hm u (List.mem_cons_of_mem _ hu)).2⟩) h
         grind [Len]
       grind
theorem TQ{f:Nat}{a b:Ty}{s s':List Assign}{e:Int}(hs:J5 s)(ha:a.ay=true)(hb:b.ay=true)(h:IY f a b s=some (e,s')):∃ σ',uA f (jq s) a b=some (e,σ')/\(e=0->jq s'=σ'/\J5 s'):=by
 have:=zcb f a b s hs ha hb;rw[h]at this
 cases hq:uA f (jq s) a b with
 |none=>rw[hq]at this;exact this.elim
 | some q =>
   obtain⟨e',σ'⟩:=q;rw[hq]at this;obtain⟨rfl,h2⟩:=this
   grind
theorem zcd:∀ (f:Nat) (a b:Ty) (s s':List Assign),J5 s->kg (jq s)->a.ay=true->b.ay=true->cl V (jq s) a->cl V (jq s) b->IY f a b s=some (0,s')->Len V s s':=by
 intro f
 induction f with
 |zero=>intro a b s s' _ _ _ _ _ _ h;cases h
 | succ f ih =>
   intro a b s s' hs hi ha hb ca cb hr;have pa:=dP hi.plain a ha;have pb:=dP hi.plain b hb;have fa:=hi.app a;have fb:=hi.app b;rw[IY,rS,kJ s a ha,kJ s b hb]at hr;have zwv:cl V (jq s) (a.app (jq s)):=fun j hj=>ca j (by rw[hi.app]at hj;exact hj)
   have cb':cl V (jq s) (b.app (jq s)):=fun j hj=>cb j (by rw[hi.app]at hj;exact hj)
   split at hr
   . cases hr;exact⟨Nat.le_refl _,Nat.le_refl _⟩
   rename_i hne;generalize a.app (jq s)=x at *;generalize b.app (jq s)=y at *;have ox:∀ j,x.lq j=true->j∈V:=fun j hj=>zwv j (by rw[fa];exact hj)
   have oy:∀ j,y.lq j=true->j∈V:=fun j hj=>cb' j (by rw[fb];exact hj)
   split at hr
   . grind [bg,bL,Ub,lT,aM]
   split at hr
   . grind [bg,bL,Ub,lT,aM]
   split at hr
   . rename_i hk1 hk2 hsm;refine ztN (V:=V) (fun a b s e s' hs hi ha hb h he=>?_) (fun a b s s' hs hi ha hb ca cb h u hu=>?_) ih x.args y.args s s' hs hi (fun u hu=>⟨bN.1 (bS pa) u hu,xR hk1 zwv u hu⟩) (fun u hu=>⟨bN.1 (bS pb) u hu,xR hk2 cb' u hu⟩) hr
     . subst he;obtain⟨σ',q1,q2⟩:=TQ hs ha hb h;obtain⟨rfl,q3⟩:=q2 rfl;exact⟨q3,((sP f _ a b 0 _ hi ha hb q1).ok rfl).1⟩
     . obtain⟨σ',q1,q2⟩:=TQ hs ha hb h;obtain⟨rfl,q3⟩:=q2 rfl;exact(KX f _ a b 0 _ hi ha hb ca cb q1).keep u hu
   . cases hr
end
theorem zcc{a b:Ty}(ha:a.ay=true)(hb:b.ay=true){f:Nat}{s:List Assign}(h:IY f a b []=some (0,s)):s.length<=(ji [a,b]).length:=by
 have hab:∀ t∈[a,b],t.ay=true:=fun t ht=>by
  grind
 have ca:cl (ji [a,b]) aM a:=fun j hj=>(rY hab j).2 ⟨a,List.mem_cons_self ..,by rw[Az a ha]at hj;exact hj⟩
 have cb:cl (ji [a,b]) aM b:=fun j hj=>(rY hab j).2 ⟨b,List.mem_cons_of_mem _ (List.mem_singleton_self _),by rw[Az b hb]at hj;exact hj⟩
 have:=(zcd (V:=ji [a,b]) f a b [] s (fun a h=>by cases h) (by rw[tK];exact uO) ha hb (by rw[tK];exact ca) (by rw[tK];exact cb) h).2
 grind [free,ji,jq,List.countP_le_length,List.length_nil]
end Go.J
/- Leaves without ztI;how big resolved types are;which variables are bound. -/
namespace Go.J
open Enc (enc)
theorem zcL{α:Type} [DecidableEq α]:∀ {l m:List α},l.Nodup->(∀ x∈l,x∈m)->l.length<=m.length:=by
 intro l
 induction l with
 |nil=>intro m _ _;exact Nat.zero_le _
 | cons a l ih =>
   intro m h hm;rw[List.nodup_cons]at h;have ha:=hm a (List.mem_cons_self ..)
   have:=ih (m:=m.erase a) h.2 fun x hx=>by
    grind
   grind
def zax(V:List Int)(out:List Ty):Prop:=out.Nodup/\∀ u∈out,∃ j∈V,u=aM j
theorem zcQ{V:List Int}{l:List Ty}(h:∀ t∈l,∀ out,zax V out->zax V (dM 1 t out)):∀ out,zax V out->zax V (aP 1 l out):=by
 induction l with
 |nil=>intro out ho;rw[aP];exact ho
 | cons a l ih =>
   intro out ho;rw[aP]
   grind
theorem zuv {V:List Int} (t:Ty):t.ay=true->(∀ j,t.lq j=true->j∈V)->∀ out,zax V out->zax V (dM 1 t out):=by
 induction t using Ty.ind with
 | h t ih =>
   intro hp hV out ho;rw[kL];split
   . rename_i hk;have e:=bg hp hk.1;split
     . exact ho
     . rename_i hn;refine⟨?_,fun u hu=>?_⟩
       . rw[List.nodup_append];refine⟨ho.1,List.nodup_cons.2 ⟨by simp,List.nodup_nil⟩,fun a ha b hb=>?_⟩
         grind
       . rcases List.mem_append.1 hu with hu|hu
         . exact ho.2 u hu
         grind [List.mem_singleton,jB]
   . rename_i hk;by_cases h1:t.kind=1
     . have e:=bg hp h1;exact absurd ⟨h1,by rw[e];rfl⟩ hk
     grind [zcQ,bN,bS,GI,List.any_eq_true]
theorem LY{V:List Int}{l:List Ty}(hl:∀ t∈l,t.ay=true)(hV:∀ t∈l,∀ j,t.lq j=true->j∈V):(aP 1 l []).length<=V.length:=by
 have h:=zcQ (V:=V) (l:=l) (fun t ht=>zuv t (hl t ht) (hV t ht)) [] ⟨List.nodup_nil,fun u hu=>by cases hu⟩
 have:=zcL (m:=V.map aM) h.1 fun u hu=>by
  obtain⟨j,hj,rfl⟩:=h.2 u hu
  grind
 grind
section
variable {T:List Assign}{σ:Sub}{V:List Int}{M:Nat}
end
section
variable {P:Ty->Prop}(hP:∀ t,P t->∀ u∈t.args,P u)
end
end Go.J
/- zAi iJ as the reference does;the fQ unification keeps types well-formed. -/
namespace Go.J
open Enc (enc)
theorem yA {s:List Assign} (hs:∀ a∈s,a.type.ok=true) (t:Ty):t.ok=true->(t.dZ s).ok=true:=by
 induction t using Ty.ind with
 | h t ih =>
   intro ho;rw[yB];by_cases hk:t.kind=1
   . rw[if_pos hk]
     cases hl:bW s t.id with
     |none=>exact ho
     | some u =>
       grind [yI]
   . rw[if_neg hk];refine Ty.ky.2 ⟨by simpa using Ty.lH ho,fun x hx=>?_⟩;obtain⟨u,hu,rfl⟩:=List.mem_map.1 (show x∈t.args.map (Ty.dZ s) from hx);exact ih u hu (Ty.mH ho hu)
def zkN(a b:List Assign):List Assign:=(a.map fun x=>⟨x.id,x.type.dZ b⟩)++b.filter fun x=>!qo a x.id
theorem Yj(s:List Assign)(x:Int)(t:Ty):zkN s [⟨x,t⟩]=Fb s x t:=by
 unfold zkN Fb LD
 grind
theorem zwe{a b:List Assign}(ha:∀ x∈a,x.type.ok=true)(hb:∀ x∈b,x.type.ok=true):∀ x∈zkN a b,x.type.ok=true:=by
 grind [zkN,yA]
def Zx(s:List Assign):Prop:=∀ a∈s,a.type.ok=true
theorem Uc{s:List Assign}(hs:Zx s){x:Int}{t:Ty}(ht:t.ok=true){e:Int}{s':List Assign}(h:Ju x t s=some (e,s')):Zx s':=by
 unfold Ju at h;split at h
 . cases h;exact fun a ha=>by cases ha
 . cases h;rw[<- Yj];exact zwe hs fun y hy=>by rw[List.mem_singleton.1 hy];exact ht
theorem zBF {rec:Ty->Ty->List Assign->Option (Int×List Assign)} (hrec:∀ a b s e s',Zx s->a.ok=true->b.ok=true->rec a b s=some (e,s')->Zx s') :
 ∀ (l m:List Ty) (s:List Assign) (e:Int) (s':List Assign),Zx s->(∀ u∈l,u.ok=true)->(∀ u∈m,u.ok=true)->rL rec l m s=some (e,s')->Zx s':=by
 intro l
 induction l with
 |nil=>intro m s e s' hs _ _ h;cases h;exact hs
 | cons x l ih =>
   intro m s e s' hs hl hm h
   cases m with
   |nil=>cases h;exact hs
   | cons y m =>
     rw[rL]at h
     cases hr:rec x y s with
     |none=>rw[hr]at h;cases h
     | some p =>
       obtain⟨e1,s1⟩:=p;rw[hr]at h;simp only at h;by_cases he:e1=0
       . grind
       . rw[if_neg he]at h;cases h;exact fun a ha=>by cases ha
theorem zqf:∀ (f:Nat) (a b:Ty) (s:List Assign) (e:Int) (s':List Assign),Zx s->a.ok=true->b.ok=true->IY f a b s=some (e,s')->Zx s':=by
 intro f
 induction f with
 |zero=>intro a b s e s' _ _ _ h;cases h
 | succ f ih =>
   intro a b s e s' hs ha hb h;rw[IY,rS]at h;have oa:=yA hs a ha;have ob:=yA hs b hb;split at h
   . grind
   split at h
   . exact Uc hs ob h
   split at h
   . exact Uc hs oa h
   split at h
   . exact zBF ih _ _ _ _ _ hs (Ty.ky.1 oa).2 (Ty.ky.1 ob).2 h
   . cases h;exact fun a ha=>by cases ha
structure zaT(V:List Int)(s:List Assign):Prop where
 ok:Zx s
 pl:J5 s
 id:kg (jq s)
 sh:V.length<=8000
 len:s.length+free V (jq s)<=8000
theorem zaT.nil{V:List Int}(h:V.length<=8000):zaT V []:=by
 have h2:free V (jq [])<=V.length:=List.countP_le_length;refine⟨fun a h=>(by cases h),fun a h=>(by cases h),?_,h,?_⟩
 . rw[tK];exact uO
 grind
theorem zaT.room{V:List Int}{s:List Assign}(h:zaT V s){x:Int}(hx:x∈V)(hf:jq s x=aM x):s.length+1<=8000:=by
 have h1:=h.len
 grind [free,jq,List.countP_pos_iff]
theorem zaT.next{V:List Int}{f:Nat}{a b:Ty}{s s':List Assign}(h:zaT V s)(oa:a.ok=true)(ob:b.ok=true)(ha:a.ay=true)(hb:b.ay=true)(ca:cl V (jq s) a)(cb:cl V (jq s) b)(hr:IY f a b s=some (0,s')) :
 zaT V s'/\∀ u,cl V (jq s) u->cl V (jq s') u:=by
 obtain⟨σ',q1,q2⟩:=TQ h.pl ha hb hr;obtain⟨rfl,q3⟩:=q2 rfl;have hl:=zcd f a b s s' h.pl h.id ha hb ca cb hr;exact⟨⟨zqf f a b s 0 s' h.ok oa ob hr,q3,((sP f _ a b 0 _ h.id ha hb q1).ok rfl).1,h.sh,by have:=h.len;have:=hl.2;omega⟩,fun u hu=>(KX f _ a b 0 _ h.id ha hb ca cb q1).keep u hu⟩
theorem KC{V:List Int}{σ:Sub}(hi:kg σ){t:Ty}(ht:t.ay=true)(hc:cl V σ t):(aP 1 [t.app σ] []).length<=V.length:=by
 refine LY (fun u hu=>?_) (fun u hu j hj=>?_)
 . rw[List.mem_singleton.1 hu];exact dP hi.plain t ht
 . rw[List.mem_singleton.1 hu]at hj;exact hc j hj
theorem Ox{t:Ty}(ht:t.ay=true)(x:Int):(x∈ji [t])↔t.lq x=true:=by
 grind [rY,List.mem_singleton,List.mem_singleton_self]
end Go.J
