import Derived.Test.YtpcmebclpindjaaGreatJQ
import Derived.Test.YtpcmebclpindjaaGreatJW
import Derived.Test.YtpcmebclpindjaaGreatJL
set_option linter.all false
noncomputable section
/- Unification of types by substitutions: what it computes is a most general unifier. -/
namespace Go.J
open Enc (enc)
abbrev Sub:=Int->Ty
def one(x:Int)(t:Ty):Sub:=fun j=>if j=x then t else za0 j
def zgt(σ:Sub)(x:Int)(t:Ty):Sub:=fun i=>(σ i).app (one x t)
def zlB(x:Int)(t:Ty)(σ:Sub):Option (Int×Sub):=if t.occ x=true then some (12,σ)else some (0,zgt σ x t)
def aL (rec:Sub->Ty->Ty->Option (Int×Sub)):List Ty->List Ty->Sub->Option (Int×Sub)
 | x::l,y::m,σ=>match rec σ x y with
   |some (e,σ')=>if e=0 then aL rec l m σ' else some (e,σ')
   |none=>none
 |_,_,σ=>some (0,σ)
def aS(rec:Sub->Ty->Ty->Option (Int×Sub))(σ:Sub)(a b:Ty):Option (Int×Sub) :=
 if a.app σ=b.app σ then some (0,σ)
 else if (a.app σ).kind=1 then zlB (a.app σ).id (b.app σ) σ
 else if (b.app σ).kind=1 then zlB (b.app σ).id (a.app σ) σ
 else if (a.app σ).same (b.app σ)=true then aL rec (a.app σ).args (b.app σ).args σ
 else some (11,σ)
def uA:Nat->Sub->Ty->Ty->Option (Int×Sub)
 | 0=>fun _ _ _=>none
 |f+1=>aS (uA f)
structure Idem(σ:Sub):Prop where
 plain:∀ i,(σ i).vplain=true
 idem:∀ i,(σ i).app σ=σ i
def After(σ τ:Sub):Prop:=∀ i,(σ i).app τ=τ i
theorem After.app{σ τ:Sub}(h:After σ τ)(t:Ty):(t.app σ).app τ=t.app τ:=by
 rw[zel];exact zek t fun j _=>h j
theorem Idem.app{σ:Sub}(h:Idem σ)(t:Ty):(t.app σ).app σ=t.app σ:=After.app (σ:=σ) (τ:=σ) h.idem t
theorem After.trans{σ τ υ:Sub}(h:After σ τ)(k:After τ υ):After σ υ:=fun i=>by
 rw[<- k.app,h i];exact k i
theorem zbb{σ:Sub}(h:∀ i,(σ i).vplain=true)(t:Ty):t.vplain=true->(t.app σ).vplain=true:=by
 induction t using Ty.ind with
 | h t ih =>
   intro hp;rw[zdo];split
   . exact h _
   . rename_i hk;have hv:=zad hp;refine zeF hk fun u hu=>?_
     obtain⟨w,hw,rfl⟩:=List.mem_map.1 hu;exact ih w hw (vplains_iff.1 hv w hw)
theorem zmR{x:Int}{t u:Ty}(hu:u.vplain=true)(h:u.occ x=false):u.app (one x t)=u:=by
 rw[zek (η:=za0) u fun j hj=>?_]
 . exact zDz u hu
 . unfold one;rw[if_neg];intro e;rw[e,h]at hj;cases hj
theorem zaf(θ:Sub)(j:Int):(za0 j).app θ=θ j:=by rw[zdo];exact if_pos rfl
theorem z4V{α:Type}{f:α->α}:∀ {l:List α},l.map f=l->∀ u∈l,f u=u:=by
 intro l
 induction l with
 |nil=>intro _ u hu;cases hu
 | cons a l ih =>
   intro h u hu;rw[List.map_cons,List.cons.injEq]at h;rcases List.mem_cons.1 hu with rfl|hu
   . exact h.1
   . exact ih h.2 u hu
theorem zxt{σ:Sub}{j:Int}(t:Ty):t.app σ=t->t.occ j=true->t.vplain=true->σ j=za0 j:=by
 induction t using Ty.ind with
 | h t ih =>
   intro hi ho hp;rw[zdo]at hi;rw[zd6]at ho;by_cases hk:t.kind=1
   . rw[if_pos hk]at hi ho;have e:t.id=j:=of_decide_eq_true ho;rw[<- e,hi];exact zZ hp hk
   . rw[if_neg hk]at hi ho;obtain⟨u,hu,huo⟩:=List.any_eq_true.1 ho;refine ih u hu ?_ huo (vplains_iff.1 (zad hp) u hu);have hm:t.args.map (Ty.app σ)=t.args:=congrArg Ty.args hi;exact z4V hm u hu
theorem zwQ{σ:Sub}(h:Idem σ){i j:Int}(ho:(σ i).occ j=true):σ j=za0 j:=zxt _ (h.idem i) ho (h.plain i)
theorem Idem.comp{σ:Sub}(h:Idem σ){x:Int}{t:Ty}(hx:σ x=za0 x)(ht:t.vplain=true)(htσ:t.app σ=t)(ho:t.occ x=false):Idem (zgt σ x t)/\After σ (zgt σ x t)/\zgt σ x t x=t:=by
 have hone:∀ i,(one x t i).vplain=true:=fun i=>by
  unfold one;split
  . exact ht
  . exact zc3 _
 have e1:∀ u:Ty,u.app (zgt σ x t)=(u.app σ).app (one x t):=fun u=>(zel σ (one x t) u).symm
 have e2:∀ i,((σ i).app (one x t)).app σ=(σ i).app (one x t):=fun i=>by
  rw[zel];refine zek _ fun j hj=>?_
  unfold one;split
  . exact htσ
  . -- a variable that occurs in an image is free
    rename_i hjx;rw[zaf];exact(zwQ h hj)
 refine⟨⟨fun i=>zbb hone _ (h.plain i),fun i=>?_⟩,fun i=>?_,?_⟩
 . rw[e1];show (((σ i).app (one x t)).app σ).app (one x t)=(σ i).app (one x t);rw[e2,zel];refine zek _ fun j hj=>?_
   unfold one;split
   . exact zmR ht ho
   . rename_i hjx;rw[zaf];exact if_neg hjx
 . rw[e1,h.idem];rfl
 . show (σ x).app (one x t)=t;rw[hx,zaf];exact if_pos rfl
theorem zbm{θ:Sub}{t:Ty}(hk:t.kind≠1):t.app θ=.mk t.kind t.name t.id t.home (t.args.map (Ty.app θ)):=by rw[zdo,if_neg hk]
theorem zlE{x:Int}{θ:Sub}(t:Ty):t.occ x=true->(θ x).size<=(t.app θ).size:=by
 induction t using Ty.ind with
 | h t ih =>
   intro ho;rw[zd6]at ho;by_cases hk:t.kind=1
   . rw[if_pos hk]at ho;rw[zdo,if_pos hk,of_decide_eq_true ho];exact Nat.le_refl _
   . rw[if_neg hk]at ho;obtain⟨u,hu,huo⟩:=List.any_eq_true.1 ho;have:=ih u hu huo;rw[zbm hk];have h2:=Ty.size_arg (t:=.mk t.kind t.name t.id t.home (t.args.map (Ty.app θ))) (u:=u.app θ) (List.mem_map.2 ⟨u,hu,rfl⟩);omega
theorem zAP{x:Int}{t:Ty}(hne:t.kind≠1)(ho:t.occ x=true)(θ:Sub):¬ θ x=t.app θ:=by
 intro e;rw[zd6,if_neg hne]at ho;obtain⟨u,hu,huo⟩:=List.any_eq_true.1 ho;have h1:=zlE (θ:=θ) u huo;rw[zbm hne]at e;have h2:=Ty.size_arg (t:=.mk t.kind t.name t.id t.home (t.args.map (Ty.app θ))) (u:=u.app θ) (List.mem_map.2 ⟨u,hu,rfl⟩);rw[<- e]at h2;omega
structure Good1(σ:Sub)(e:Int)(σ':Sub)(P:Sub->Prop):Prop where
 ok:e=0->Idem σ'/\After σ σ'/\P σ'
 mgu:∀ θ,After σ θ->P θ->e=0/\After σ' θ
theorem zlA{σ:Sub}(h:Idem σ){x:Int}{t:Ty}(hx:σ x=za0 x)(ht:t.vplain=true)(htσ:t.app σ=t)(hne:za0 x≠t){e:Int}{σ':Sub}(hr:zlB x t σ=some (e,σ')) :
 Good1 σ e σ' fun θ=>θ x=t.app θ:=by
 unfold zlB at hr;split at hr
 . rename_i ho;cases hr
   have hk:t.kind≠1:=fun hk=>by
    have e:=zZ ht hk;rw[zd6,if_pos hk]at ho;rw[of_decide_eq_true ho]at e;exact hne e.symm
   exact⟨fun h=>(by cases h),fun θ hA hP=>absurd hP (zAP hk ho θ)⟩
 . rename_i ho;cases hr;have ho':t.occ x=false:=by simpa using ho
   obtain⟨h1,h2,h3⟩:=h.comp hx ht htσ ho';refine⟨fun _=>⟨h1,h2,?_⟩,fun θ hA hP=>⟨rfl,fun i=>?_⟩⟩
   . rw[h3];have e1:t.app (zgt σ x t)=(t.app σ).app (one x t):=(zel σ (one x t) t).symm;rw[e1,htσ,zmR ht ho']
   . show ((σ i).app (one x t)).app θ=θ i;rw[zel,<- hA i];refine zek _ fun j hj=>?_
     unfold one;split
     . rename_i e;rw[e];exact hP.symm
     . exact zaf θ j
theorem z6S {rec:Sub->Ty->Ty->Option (Int×Sub)} (hrec:∀ σ a b e σ',Idem σ->a.vplain=true->b.vplain=true->rec σ a b=some (e,σ')->Good1 σ e σ' fun θ=>a.app θ=b.app θ) :
 ∀ (l m:List Ty) (σ:Sub) (e:Int) (σ':Sub),l.length=m.length->Idem σ->(∀ u∈l,u.vplain=true)->(∀ u∈m,u.vplain=true)->aL rec l m σ=some (e,σ')->Good1 σ e σ' fun θ=>l.map (Ty.app θ)=m.map (Ty.app θ):=by
 intro l
 induction l with
 | nil =>
   intro m σ e σ' hlen h _ _ hr
   cases m with
   |nil=>cases hr;exact⟨fun _=>⟨h,h.idem,rfl⟩,fun θ hA _=>⟨rfl,hA⟩⟩
   |cons y m=>simp at hlen
 | cons x l ih =>
   intro m σ e σ' hlen h hl hm hr
   cases m with
   |nil=>simp at hlen
   | cons y m =>
     rw[aL]at hr
     cases hq:rec σ x y with
     |none=>rw[hq]at hr;cases hr
     | some r =>
       obtain⟨e1,σ1⟩:=r;rw[hq]at hr;have g:=hrec σ x y e1 σ1 h (hl x (List.mem_cons_self ..)) (hm y (List.mem_cons_self ..)) hq;simp only at hr;split at hr
       . rename_i he;obtain⟨i1,i2,i3⟩:=g.ok he;have g2:=ih m σ1 e σ' (by simpa using hlen) i1 (fun u hu=>hl u (List.mem_cons_of_mem _ hu)) (fun u hu=>hm u (List.mem_cons_of_mem _ hu)) hr;refine⟨fun h0=>?_,fun θ hA hP=>?_⟩
         . obtain⟨j1,j2,j3⟩:=g2.ok h0;refine⟨j1,i2.trans j2,?_⟩;rw[List.map_cons,List.map_cons,j3,<- j2.app x,i3,j2.app]
         . rw[List.map_cons,List.map_cons,List.cons.injEq]at hP;exact g2.mgu θ (g.mgu θ hA hP.1).2 hP.2
       . rename_i he;cases hr;refine⟨fun h0=>absurd h0 he,fun θ hA hP=>?_⟩;rw[List.map_cons,List.map_cons,List.cons.injEq]at hP;exact absurd (g.mgu θ hA hP.1).1 he
theorem zlN:∀ (f:Nat) (σ:Sub) (a b:Ty) (e:Int) (σ':Sub),Idem σ->a.vplain=true->b.vplain=true->uA f σ a b=some (e,σ')->Good1 σ e σ' fun θ=>a.app θ=b.app θ:=by
 intro f
 induction f with
 |zero=>intro σ a b e σ' _ _ _ hr;cases hr
 | succ f ih =>
   intro σ a b e σ' h ha hb hr;have pa:=zbb h.plain a ha;have pb:=zbb h.plain b hb;have fa:=h.app a;have fb:=h.app b
   have lift:∀ {e σ'},(Good1 σ e σ' fun θ=>(a.app σ).app θ=(b.app σ).app θ)->Good1 σ e σ' fun θ=>a.app θ=b.app θ:=fun g =>
    ⟨fun h0=>by
      obtain⟨i1,i2,i3⟩:=g.ok h0
      exact⟨i1,i2,by rw[<- i2.app a,<- i2.app b];exact i3⟩,fun θ hA hP=>g.mgu θ hA (by rw[hA.app,hA.app];exact hP)⟩
   rw[uA,aS]at hr;split at hr
   . rename_i heq;cases hr;exact lift ⟨fun _=>⟨h,h.idem,by rw[heq]⟩,fun θ hA _=>⟨rfl,hA⟩⟩
   rename_i hne;apply lift;clear lift;generalize a.app σ=x at *;generalize b.app σ=y at *;split at hr
   . rename_i hk;have ex:=zZ pa hk;rw[ex,zaf]at fa;have g:=zlA h fa pb fb (by rw[<- ex];exact hne) hr;rw[ex];exact⟨fun h0=>by obtain⟨i1,i2,i3⟩:=g.ok h0;exact⟨i1,i2,by rw[zaf];exact i3⟩,fun θ hA hP=>g.mgu θ hA (by rw[zaf]at hP;exact hP)⟩
   split at hr
   . rename_i hk;have ey:=zZ pb hk;rw[ey,zaf]at fb;have g:=zlA h fb pa fa (by rw[<- ey];exact fun e=>hne e.symm) hr;rw[ey];exact⟨fun h0=>by obtain⟨i1,i2,i3⟩:=g.ok h0;exact⟨i1,i2,by rw[zaf];exact i3.symm⟩,fun θ hA hP=>g.mgu θ hA (by rw[zaf]at hP;exact hP.symm)⟩
   split at hr
   . rename_i hk1 hk2 hs;have hlen:=(same_iff.1 hs).2.2.2.2;have g:=z6S ih x.args y.args σ e σ' hlen h (vplains_iff.1 (zad pa)) (vplains_iff.1 (zad pb)) hr;obtain⟨q1,q2,q3,q4,_⟩:=same_iff.1 hs;refine⟨fun h0=>?_,fun θ hA hP=>g.mgu θ hA ?_⟩
     . obtain⟨i1,i2,i3⟩:=g.ok h0;exact⟨i1,i2,by rw[zbm hk1,zbm hk2,i3,q1,q2,q3,q4]⟩
     . rw[zbm hk1,zbm hk2]at hP;exact congrArg Ty.args hP
   . rename_i hk1 hk2 hs;cases hr;refine⟨fun h0=>(by cases h0),fun θ hA hP=>?_⟩;rw[zbm hk1,zbm hk2,Ty.mk.injEq]at hP;refine absurd (same_iff.2 ⟨hP.1,hP.2.1,hP.2.2.1,hP.2.2.2.1,?_⟩) hs;have:=congrArg List.length hP.2.2.2.2;simpa using this
end Go.J
/- Unification by substitutions comes to an end. -/
namespace Go.J
open Enc (enc)
section
variable (V:List Int)
open Classical in
def free(σ:Sub):Nat:=V.countP fun i=>decide (σ i=za0 i)
def cl(σ:Sub)(u:Ty):Prop:=∀ j,(u.app σ).occ j=true->j∈V
structure Prog(σ σ':Sub):Prop where
 less:σ'=σ\/free V σ'<free V σ
 keep:∀ u,cl V σ u->cl V σ' u
variable {V}
theorem Prog.refl(σ:Sub):Prog V σ σ:=⟨.inl rfl,fun _ h=>h⟩
theorem Prog.trans{a b c:Sub}(h:Prog V a b)(k:Prog V b c):Prog V a c:=by
 refine⟨?_,fun u hu=>k.keep u (h.keep u hu)⟩;rcases h.less with rfl|h1<;>rcases k.less with rfl|h2
 . exact .inl rfl
 . exact .inr h2
 . exact .inr h1
 . exact .inr (Nat.lt_trans h2 h1)
theorem zdv(i j:Int):(za0 i).occ j=decide (i=j):=by rw[zd6];exact if_pos rfl
theorem z4E{θ:Sub}{j:Int}(t:Ty):(t.app θ).occ j=true->∃ i,t.occ i=true/\(θ i).occ j=true:=by
 induction t using Ty.ind with
 | h t ih =>
   intro h;by_cases hk:t.kind=1
   . rw[zdo,if_pos hk]at h;exact⟨t.id,by rw[zd6,if_pos hk];simp,h⟩
   . rw[zbm hk,zd6]at h;simp only[Ty.kind_mk,Ty.args_mk,if_neg hk]at h;obtain⟨u,hu,huo⟩:=List.any_eq_true.1 h;obtain⟨w,hw,rfl⟩:=List.mem_map.1 hu;obtain⟨i,h1,h2⟩:=ih w hw huo;exact⟨i,by rw[zd6,if_neg hk];exact List.any_eq_true.2 ⟨w,hw,h1⟩,h2⟩
theorem zvd{α:Type}{p q:α->Bool}:∀ {l:List α} {x:α},x∈l->(∀ i,p i=true->q i=true)->p x=false->q x=true->l.countP p<l.countP q:=by
 intro l
 induction l with
 |nil=>intro x hx;cases hx
 | cons a l ih =>
   intro x hx h hp hq;have hle:l.countP p<=l.countP q:=List.countP_mono_left fun i _=>h i
   rw[List.countP_cons,List.countP_cons];rcases List.mem_cons.1 hx with rfl|hx
   . rw[hp,hq];simp;omega
   . have:=ih hx h hp hq
     cases hpa:p a with
     |false=>cases hqa:q a<;>simp<;>omega
     |true=>rw[h a hpa];simp;omega
theorem zl9 {σ:Sub} (h:Idem σ) {x:Int} {t:Ty} (hx:σ x=za0 x) (ht:t.vplain=true) (htσ:t.app σ=t) (hne:za0 x≠t) (hxV:x∈V) (htV:∀ j,t.occ j=true->j∈V) (ho:t.occ x=false):Prog V σ (zgt σ x t):=by
 obtain⟨h1,h2,h3⟩:=h.comp hx ht htσ ho;refine⟨.inr ?_,fun u hu j hj=>?_⟩
 . unfold free;refine zvd hxV (fun i hi=>?_) ?_ (decide_eq_true hx)
   . have hi:(σ i).app (one x t)=za0 i:=of_decide_eq_true hi;refine decide_eq_true ?_;by_cases hk:(σ i).kind=1
     . have e:=zZ (h.plain i) hk;rw[e,zaf]at hi;unfold one at hi;split at hi
       . rename_i ej;exfalso;rw[hi,zaf,e,ej]at htσ;exact hne (by rw[hi];exact htσ)
       . rw[e,hi]
     . rw[zbm hk]at hi;exact absurd (congrArg Ty.kind hi) hk
   . refine decide_eq_false fun e=>hne ?_
     rw[h3]at e;exact e.symm
 . have e:u.app (zgt σ x t)=(u.app σ).app (one x t):=(zel σ (one x t) u).symm;rw[e]at hj;obtain⟨i,hi,hj⟩:=z4E _ hj;unfold one at hj;split at hj
   . exact htV j hj
   . rw[zdv]at hj;have:i=j:=of_decide_eq_true hj;exact hu j (this ▸ hi)
theorem zjb{σ:Sub}(h:Idem σ){x:Int}{t:Ty}(hx:σ x=za0 x)(ht:t.vplain=true)(htσ:t.app σ=t)(hne:za0 x≠t)(hxV:x∈V)(htV:∀ j,t.occ j=true->j∈V){e:Int}{σ':Sub}(hr:zlB x t σ=some (e,σ')):Prog V σ σ':=by
 unfold zlB at hr;split at hr
 . cases hr;exact .refl σ
 . rename_i ho;cases hr;exact zl9 h hx ht htσ hne hxV htV (by simpa using ho)
theorem z6R {rec:Sub->Ty->Ty->Option (Int×Sub)} (hgood:∀ σ a b e σ',Idem σ->a.vplain=true->b.vplain=true->rec σ a b=some (e,σ')->Good1 σ e σ' fun θ=>a.app θ=b.app θ)
 (hrec:∀ σ a b e σ',Idem σ->a.vplain=true->b.vplain=true->cl V σ a->cl V σ b->rec σ a b=some (e,σ')->Prog V σ σ') :
 ∀ (l m:List Ty) (σ:Sub) (e:Int) (σ':Sub),Idem σ->(∀ u∈l,u.vplain=true/\cl V σ u)->(∀ u∈m,u.vplain=true/\cl V σ u)->aL rec l m σ=some (e,σ')->Prog V σ σ':=by
 intro l
 induction l with
 |nil=>intro m σ e σ' h _ _ hr;cases hr;exact .refl _
 | cons x l ih =>
   intro m σ e σ' h hl hm hr
   cases m with
   |nil=>cases hr;exact .refl _
   | cons y m =>
     rw[aL]at hr
     cases hq:rec σ x y with
     |none=>rw[hq]at hr;cases hr
     | some r =>
       obtain⟨e1,σ1⟩:=r;rw[hq]at hr;obtain⟨x1,x2⟩:=hl x (List.mem_cons_self ..);obtain⟨y1,y2⟩:=hm y (List.mem_cons_self ..);have g:=hgood σ x y e1 σ1 h x1 y1 hq;have p:=hrec σ x y e1 σ1 h x1 y1 x2 y2 hq;simp only at hr;split at hr
       . rename_i he;obtain⟨i1,_,_⟩:=g.ok he;exact p.trans (ih m σ1 e σ' i1 (fun u hu=>⟨(hl u (List.mem_cons_of_mem _ hu)).1,p.keep u (hl u (List.mem_cons_of_mem _ hu)).2⟩) (fun u hu=>⟨(hm u (List.mem_cons_of_mem _ hu)).1,p.keep u (hm u (List.mem_cons_of_mem _ hu)).2⟩) hr)
       . cases hr;exact p
theorem zos{σ:Sub}{t:Ty}(hk:t.kind≠1)(h:cl V σ t):∀ u∈t.args,cl V σ u:=fun u hu j hj=>h j (by
 rw[zbm hk,zd6];simp only[Ty.kind_mk,Ty.args_mk,if_neg hk]
 exact List.any_eq_true.2 ⟨_,List.mem_map.2 ⟨u,hu,rfl⟩,hj⟩)
theorem zqb:∀ (f:Nat) (σ:Sub) (a b:Ty) (e:Int) (σ':Sub),Idem σ->a.vplain=true->b.vplain=true->cl V σ a->cl V σ b->uA f σ a b=some (e,σ')->Prog V σ σ':=by
 intro f
 induction f with
 |zero=>intro σ a b e σ' _ _ _ _ _ hr;cases hr
 | succ f ih =>
   intro σ a b e σ' h ha hb ca cb hr;have pa:=zbb h.plain a ha;have pb:=zbb h.plain b hb;have fa:=h.app a;have fb:=h.app b;rw[uA,aS]at hr;have ca':cl V σ (a.app σ):=fun j hj=>ca j (by rw[h.app]at hj;exact hj)
   have cb':cl V σ (b.app σ):=fun j hj=>cb j (by rw[h.app]at hj;exact hj)
   split at hr
   . cases hr;exact .refl _
   rename_i hne;generalize a.app σ=x at *;generalize b.app σ=y at *;have ox:∀ j,x.occ j=true->j∈V:=fun j hj=>ca' j (by rw[fa];exact hj)
   have oy:∀ j,y.occ j=true->j∈V:=fun j hj=>cb' j (by rw[fb];exact hj)
   split at hr
   . rename_i hk;have ex:=zZ pa hk;rw[ex,zaf]at fa;exact zjb h fa pb fb (by rw[<- ex];exact hne) (ox _ (by rw[ex,zdv];simp[za0])) oy hr
   split at hr
   . rename_i hk;have ey:=zZ pb hk;rw[ey,zaf]at fb;exact zjb h fb pa fa (by rw[<- ey];exact fun e=>hne e.symm) (oy _ (by rw[ey,zdv];simp[za0])) ox hr
   split at hr
   . rename_i hk1 hk2 hs;exact z6R (zlN f) ih x.args y.args σ e σ' h (fun u hu=>⟨vplains_iff.1 (zad pa) u hu,zos hk1 ca' u hu⟩) (fun u hu=>⟨vplains_iff.1 (zad pb) u hu,zos hk2 cb' u hu⟩) hr
   . cases hr;exact .refl _
end
end Go.J
/- The reference's unification of chapter 15 is unification by substitutions. -/
namespace Go.J
open Enc (enc)
def zwO(x:Int)(t:Ty):List Assign:=[⟨x,t⟩]
def zpE(s:List Assign)(x:Int)(t:Ty):List Assign:=(s.map fun a=>⟨a.id,a.type.repl (zwO x t)⟩)++(if z5C s x=true then []else zwO x t)
def zy5(x:Int)(t:Ty)(s:List Assign):Option (Int×List Assign):=if t.occ x=true then some (12,[])else some (0,zpE s x t)
def rL (rec:Ty->Ty->List Assign->Option (Int×List Assign)):List Ty->List Ty->List Assign->Option (Int×List Assign)
 | x::l,y::m,s=>match rec x y s with
   |some (e,s')=>if e=0 then rL rec l m s' else some (e,[])
   |none=>none
 |_,_,s=>some (0,s)
def rS(rec:Ty->Ty->List Assign->Option (Int×List Assign))(a b:Ty)(s:List Assign):Option (Int×List Assign) :=
 if a.repl s=b.repl s then some (0,s)
 else if (a.repl s).kind=1 then zy5 (a.repl s).id (b.repl s) s
 else if (b.repl s).kind=1 then zy5 (b.repl s).id (a.repl s) s
 else if (a.repl s).same (b.repl s)=true then rL rec (a.repl s).args (b.repl s).args s
 else some (11,[])
def ruM:Nat->Ty->Ty->List Assign->Option (Int×List Assign)
 | 0=>fun _ _ _=>none
 |f+1=>rS (ruM f)
def pls(s:List Assign):Prop:=∀ a∈s,a.type.vplain=true
theorem zkS{s:List Assign}(h:pls s)(i:Int):(fnA s i).vplain=true:=by
 unfold fnA
 cases hl:zP s i with
 |none=>exact zc3 i
 | some t =>
   obtain⟨a,ha,rfl⟩:=zhf hl;exact h a ha
theorem zmz(x:Int)(t:Ty):fnA (zwO x t)=one x t:=by
 grind [fnA,zwO,one,zP]
theorem zxe{s:List Assign}{f:Ty->Ty}(i:Int):zP (s.map fun a=>⟨a.id,f a.type⟩) i=(zP s i).map f:=by
 induction s with
 |nil=>rfl
 | cons a s ih =>
   grind [zP]
theorem zvf{s:List Assign}(hs:pls s)(x:Int)(t:Ty):fnA (zpE s x t)=zgt (fnA s) x t:=by
 funext i
 unfold zgt;have h1:fnA (zpE s x t) i=((zP (zpE s x t) i).getD (za0 i)):=rfl;rw[h1];unfold zpE;rw[zbu,zxe]
 cases hl:zP s i with
 | some u =>
   obtain⟨a,ha,rfl⟩:=zhf hl;have h2:fnA s i=a.type:=by unfold fnA;rw[hl];rfl
   rw[h2];show (a.type.repl (zwO x t))=_;rw[zeu _ _ (hs a ha),zmz]
 | none =>
   grind [fnA,za0,zaf,zP,z5C,zwO,one,zxp,zmz]
theorem zxB{s:List Assign}(hs:pls s){x:Int}{t:Ty}(ht:t.vplain=true):pls (zpE s x t):=by
 intro a ha;unfold zpE at ha
 have hone:∀ i,(one x t i).vplain=true:=fun i=>by
  grind [one,zc3]
 rcases List.mem_append.1 ha with ha|ha
 . obtain⟨b,hb,rfl⟩:=List.mem_map.1 ha;show (b.type.repl (zwO x t)).vplain=true;rw[zeu _ _ (hs b hb),zmz];exact zbb hone _ (hs b hb)
 . split at ha
   . cases ha
   . rw[List.mem_singleton.1 ha];exact ht
def zG9(r:Option (Int×List Assign))(q:Option (Int×Sub)):Prop:=match r,q with
 |none,none=>True
 |some (e,s),some (e',σ)=>e=e'/\(e=0->fnA s=σ/\pls s)
 |_,_=>False
theorem zq3{s:List Assign}(hs:pls s){x:Int}{t:Ty}(ht:t.vplain=true):zG9 (zy5 x t s) (zlB x t (fnA s)):=by
 unfold zy5 zlB;split
 . exact⟨rfl,fun h=>by cases h⟩
 . exact⟨rfl,fun _=>⟨zvf hs x t,zxB hs ht⟩⟩
theorem zA2 {rec:Ty->Ty->List Assign->Option (Int×List Assign)} {rec2:Sub->Ty->Ty->Option (Int×Sub)} (hrec:∀ a b s,pls s->a.vplain=true->b.vplain=true->zG9 (rec a b s) (rec2 (fnA s) a b)) :
 ∀ (l m:List Ty) (s:List Assign),pls s->(∀ u∈l,u.vplain=true)->(∀ u∈m,u.vplain=true)->zG9 (rL rec l m s) (aL rec2 l m (fnA s)):=by
 intro l
 induction l with
 |nil=>intro m s hs _ _;exact⟨rfl,fun _=>⟨rfl,hs⟩⟩
 | cons x l ih =>
   intro m s hs hl hm
   cases m with
   |nil=>exact⟨rfl,fun _=>⟨rfl,hs⟩⟩
   | cons y m =>
     have h1:=hrec x y s hs (hl x (List.mem_cons_self ..)) (hm y (List.mem_cons_self ..));rw[rL,aL]
     cases hr:rec x y s with
     | none =>
       rw[hr]at h1
       cases hq:rec2 (fnA s) x y with
       |none=>exact trivial
       |some q=>rw[hq]at h1;exact h1.elim
     | some r =>
       obtain⟨e,s'⟩:=r;rw[hr]at h1
       cases hq:rec2 (fnA s) x y with
       |none=>rw[hq]at h1;exact h1.elim
       | some q =>
         obtain⟨e',σ'⟩:=q;rw[hq]at h1;obtain⟨rfl,h2⟩:=h1;simp only;by_cases he:e=0
         . grind
         . rw[if_neg he,if_neg he];exact⟨rfl,fun h=>absurd h he⟩
theorem zAl:∀ (f:Nat) (a b:Ty) (s:List Assign),pls s->a.vplain=true->b.vplain=true->zG9 (ruM f a b s) (uA f (fnA s) a b):=by
 intro f
 induction f with
 |zero=>intro a b s _ _ _;exact trivial
 | succ f ih =>
   intro a b s hs ha hb;rw[ruM,rS,uA,aS,zeu s a ha,zeu s b hb];have pa:=zbb (zkS hs) a ha;have pb:=zbb (zkS hs) b hb;generalize a.app (fnA s)=x at *;generalize b.app (fnA s)=y at *;split
   . exact⟨rfl,fun _=>⟨rfl,hs⟩⟩
   split
   . exact zq3 hs pb
   split
   . exact zq3 hs pa
   split
   . grind [zA2,vplains_iff,zad]
   . exact⟨rfl,fun h=>by cases h⟩
theorem zkO:Idem za0:=⟨zc3,fun i=>zaf _ i⟩
theorem z5M:fnA []=za0:=rfl
end Go.J
/- Unifiers in triangular form. -/
namespace Go.J
open Enc (enc)
inductive Tri:List Assign->Sub->Prop
 |nil:Tri [] za0
 |snoc {T:List Assign} {σ:Sub} {x:Int} {t:Ty}:Tri T σ->zP T x=none->t.vplain=true->(t.app σ).occ x=false->Tri (T++[⟨x,t⟩]) (zgt σ x (t.app σ))
theorem zfm{x:Int}{t:Ty}(i:Int):zP [⟨x,t⟩] i=if x=i then some t else none:=by rw[zP];rfl
structure TriP(T:List Assign)(σ:Sub):Prop where
 idem:Idem σ
 free:∀ i,zP T i=none->σ i=za0 i
 res:∀ i u,zP T i=some u->u.vplain=true/\σ i=u.app σ
theorem Tri.props {T:List Assign} {σ:Sub} (h:Tri T σ):TriP T σ:=by
 induction h with
 |nil=>exact⟨zkO,fun i _=>rfl,fun i u h=>by cases h⟩
 | @snoc T σ x t h hx ht ho ih =>
   have hxf:=ih.free x hx;have htp:=zbb ih.idem.plain t ht;have htf:=ih.idem.app t;obtain⟨h1,h2,h3⟩:=ih.idem.comp hxf htp htf ho;have e1:∀ u:Ty,u.app (zgt σ x (t.app σ))=(u.app σ).app (one x (t.app σ)):=fun u=>(zel σ (one x (t.app σ)) u).symm
   refine⟨h1,fun i hi=>?_,fun i u hi=>?_⟩
   . rw [zbu,zfm]at hi
     cases hl:zP T i with
     |some u=>rw[hl]at hi;cases hi
     | none =>
       rw[hl]at hi;by_cases e:x=i
       . grind
       . show (σ i).app (one x (t.app σ))=za0 i;rw[ih.free i hl,zaf];exact if_neg fun e'=>e e'.symm
   . rw[zbu,zfm]at hi
     cases hl:zP T i with
     | some v =>
       rw[hl]at hi;cases hi;obtain⟨g1,g2⟩:=ih.res i u hl;exact⟨g1,by rw[e1,<- g2];rfl⟩
     | none =>
       grind [zmR]
def z9q(T:List Assign)(u t:Ty):Prop:=(t.kind=1/\zP T t.id=some u)\/(t.kind≠1/\u∈t.args)
inductive RchT (T:List Assign) (x:Int):Ty->Prop
 |here {t:Ty}:t.kind=1->t.id=x->RchT T x t
 |down {t u:Ty}:z9q T u t->RchT T x u->RchT T x t
theorem zmQ{σ:Sub}{t:Ty}(hk:t.kind=1):t.app σ=σ t.id:=by rw[zdo,if_pos hk]
theorem RchT.occ{T:List Assign}{σ:Sub}(h:TriP T σ){x:Int}(hx:zP T x=none){t:Ty}(hr:RchT T x t):(t.app σ).occ x=true:=by
 induction hr with
 |here hk hi=>rw[zmQ hk,hi,h.free x hx,zdv];simp
 | @down t u hb _ ih =>
   rcases hb with⟨hk,hl⟩|⟨hk,hu⟩
   . rw[zmQ hk,(h.res _ _ hl).2];exact ih
   . rw[zbm hk,zd6];simp only[Ty.kind_mk,Ty.args_mk,if_neg hk];exact List.any_eq_true.2 ⟨_,List.mem_map.2 ⟨u,hu,rfl⟩,ih⟩
theorem Tri.acc {T:List Assign} {σ:Sub} (h:Tri T σ):∀ t:Ty,Acc (z9q T) t:=by
 induction h with
 | nil =>
   intro t
   induction t using Ty.ind with
   | h t ih =>
     refine⟨_,fun u hu=>?_⟩;rcases hu with⟨_,hl⟩|⟨_,hu⟩
     . cases hl
     . exact ih u hu
 | @snoc T σ x t h hx ht ho ih =>
   have hP:=h.props;have hnr:¬ RchT T x t:=fun hr=>by rw[hr.occ hP hx]at ho;cases ho
   have hlk:∀ i,i≠x->zP (T++[⟨x,t⟩]) i=zP T i:=fun i hi=>by
    rw[zbu,zfm,if_neg fun e=>hi e.symm];cases zP T i<;>rfl
   have key:∀ u,Acc (z9q T) u->¬ RchT T x u->Acc (z9q (T++[⟨x,t⟩])) u:=by
    intro u hu
    induction hu with
    | intro u _ ihu =>
      intro hr;refine⟨_,fun v hv=>?_⟩
      have hv':z9q T v u:=by
       rcases hv with⟨hk,hl⟩|h2
       . rw[hlk u.id fun e=>hr (.here hk e)]at hl;exact .inl ⟨hk,hl⟩
       . exact .inr h2
      exact ihu v hv' fun hh=>hr (.down hv' hh)
   have hta:=key t (ih t) hnr;intro u;have hu:=ih u
   induction hu with
   | intro u _ ihu =>
     refine⟨_,fun v hv=>?_⟩;by_cases hux:u.kind=1/\u.id=x
     . rcases hv with⟨_,hl⟩|⟨hk,_⟩
       . rw[hux.2,zbu,hx,zfm,if_pos rfl]at hl;cases hl;exact hta
       . exact absurd hux.1 hk
     . refine ihu v ?_;rcases hv with⟨hk,hl⟩|h2
       . rw[hlk u.id fun e=>hux ⟨hk,e⟩]at hl;exact .inl ⟨hk,hl⟩
       . exact .inr h2
inductive Wk (T:List Assign):Ty->Ty->Nat->Prop
 |stop {t:Ty}:(t.kind=1->zP T t.id=none)->Wk T t t 0
 |step {t u r:Ty} {n:Nat}:t.kind=1->zP T t.id=some u->Wk T u r n->Wk T t r (n+1)
theorem Wk.uniq{T:List Assign}{t r r':Ty}{n n':Nat}(h:Wk T t r n):Wk T t r' n'->r'=r/\n'=n:=by
 induction h generalizing r' n' with
 | stop h =>
   intro h'
   cases h' with
   |stop _=>exact⟨rfl,rfl⟩
   |step hk hl _=>rw[h hk]at hl;cases hl
 | step hk hl _ ih =>
   intro h'
   cases h' with
   |stop h=>rw[h hk]at hl;cases hl
   | step _ hl' h' =>
     grind
theorem Tri.walk {T:List Assign} {σ:Sub} (h:Tri T σ) (t:Ty):t.vplain=true->∃ r n,Wk T t r n/\r.vplain=true/\r.app σ=t.app σ/\(r.kind=1->zP T r.id=none):=by
 have hP:=h.props;have ha:=h.acc t
 induction ha with
 | intro t _ ih =>
   intro ht;by_cases hk:t.kind=1
   . cases hl:zP T t.id with
     |none=>exact⟨t,0,.stop fun _=>hl,ht,rfl,fun _=>hl⟩
     | some u =>
       obtain⟨g1,g2⟩:=hP.res _ _ hl;obtain⟨r,n,h1,h2,h3,h4⟩:=ih u (.inl ⟨hk,hl⟩) g1;exact⟨r,n+1,.step hk hl h1,h2,by rw[h3,zmQ hk,g2],h4⟩
   . exact⟨t,0,.stop fun h=>absurd h hk,ht,rfl,fun h=>absurd h hk⟩
end Go.J
/- The search for a variable in a triangular form. -/
namespace Go.J
open Enc (enc)
theorem RchT.gen{T:List Assign}{x:Int}{u:Ty}(hl:zP T x=some u){v:Ty}(h:RchT T x v):Relation.TransGen (z9q T) u v:=by
 induction h with
 |here hk hi=>exact .single (.inl ⟨hk,by rw[hi];exact hl⟩)
 |down hb _ ih=>exact .tail ih hb
end Go.J
/- The triangle's unification is unification by substitutions. -/
namespace Go.J
open Enc (enc)
def tL (rec:List Assign->Ty->Ty->Option (Int×List Assign)):List Ty->List Ty->List Assign->Option (Int×List Assign)
 | x::l,y::m,T=>match rec T x y with
   |some (e,T')=>if e=0 then tL rec l m T' else some (e,T')
   |none=>none
 |_,_,T=>some (0,T)
def tS(rec:List Assign->Ty->Ty->Option (Int×List Assign))(bn:List Assign->Int->Ty->Option (Int×List Assign))(T:List Assign)(x y:Ty):Option (Int×List Assign) :=
 if x.kind=1/\y.kind=1/\x.id=y.id then some (0,T)
 else if x.kind=1 then bn T x.id y
 else if y.kind=1 then bn T y.id x
 else if x.same y=true then tL rec x.args y.args T
 else some (11,T)
end Go.J
/- Resolving a triangular form;what is found are most general unifiers. -/
namespace Go.J
open Enc (enc)
theorem Tri.bound {T:List Assign} {σ:Sub} (h:Tri T σ):∀ j,zP T j≠none->σ j≠za0 j:=by
 induction h with
 |nil=>intro j hj;exact absurd rfl hj
 | @snoc T σ x t h hx ht ho ih =>
   intro j hj he;have hP:=h.props;have htf:=hP.idem.app t;have he:(σ j).app (one x (t.app σ))=za0 j:=he;by_cases hjx:j=x
   . subst hjx;rw[hP.free j hx,zaf]at he
     grind [za0,one,zdv]
   . have hj2:zP T j≠none:=by
      grind [zbu,zfm,zP]
     by_cases hk:(σ j).kind=1
     . have e:=zZ (hP.idem.plain j) hk
       grind [zaf,one]
     . rw[zbm hk]at he;exact hk (congrArg Ty.kind he)
end Go.J
/- What the laws on unification say. -/
namespace Go.J
open Enc (enc)
theorem zms(out:List Int)(t:Ty)(j:Int):j∈zbr out t↔j∈out\/(t.kind=1/\t.id=j):=by
 unfold zbr
 grind
theorem zoX{l:List Ty}(h:∀ t∈l,∀ (out:List Int) (j:Int),j∈zhL t out↔j∈out\/t.occ j=true):∀ (out:List Int) (j:Int),j∈zcw l out↔j∈out\/∃ t∈l,t.occ j=true:=by
 induction l with
 |nil=>intro out j;simp[zcw]
 | cons t l ih =>
   grind [zcw,List.mem_cons_of_mem,List.mem_cons_self]
theorem zxa(t:Ty):t.vplain=true->∀ (out:List Int) (j:Int),j∈zhL t out↔j∈out\/t.occ j=true:=by
 induction t using Ty.ind with
 | h t ih =>
   intro hp out j;have hv:=vplains_iff.1 (zad hp);rw[z6r,zoX (fun u hu=>ih u hu (hv u hu)),zms,zd6];by_cases hk:t.kind=1
   . have e:=zZ hp hk;have ha:t.args=[]:=by rw[e];rfl
     grind
   grind
end Go.J
/- Resolving is determined;the assignments of a list of variables;how long the reference's substitution becomes. -/
namespace Go.J
open Enc (enc)
section
variable {V:List Int}
def Len(V:List Int)(s s':List Assign):Prop:=s.length<=s'.length/\s'.length+free V (fnA s')<=s.length+free V (fnA s)
theorem zxC(s:List Assign)(x:Int)(t:Ty):s.length<=(zpE s x t).length/\(zpE s x t).length<=s.length+1:=by
 grind [zpE,List.length_append,List.length_map,zwO]
theorem zq4{s:List Assign}(hs:pls s)(hi:Idem (fnA s)){x:Int}{t:Ty}(hx:fnA s x=za0 x)(ht:t.vplain=true)(htσ:t.app (fnA s)=t)(hne:za0 x≠t)(hxV:x∈V)(htV:∀ j,t.occ j=true->j∈V){s':List Assign}(hr:zy5 x t s=some (0,s')):Len V s s':=by
 unfold zy5 at hr;split at hr
 . cases hr
 . rename_i ho;cases hr;have hl:=zxC s x t;refine⟨hl.1,?_⟩;have hp:=zl9 hi hx ht htσ hne hxV htV (by simpa using ho);rw[zvf hs x t];rcases hp.less with e|h
   . exfalso;have h3:=(hi.comp hx ht htσ (by simpa using ho)).2.2
     simp_all
   . omega
theorem zA3 {rec:Ty->Ty->List Assign->Option (Int×List Assign)} (hgood:∀ a b s e s',pls s->Idem (fnA s)->a.vplain=true->b.vplain=true->rec a b s=some (e,s')->e=0->pls s'/\Idem (fnA s'))
 (hprog:∀ a b s s',pls s->Idem (fnA s)->a.vplain=true->b.vplain=true->cl V (fnA s) a->cl V (fnA s) b->rec a b s=some (0,s')->∀ u,cl V (fnA s) u->cl V (fnA s') u)
 (hrec:∀ a b s s',pls s->Idem (fnA s)->a.vplain=true->b.vplain=true->cl V (fnA s) a->cl V (fnA s) b->rec a b s=some (0,s')->Len V s s') :
 ∀ (l m:List Ty) (s s':List Assign),pls s->Idem (fnA s)->(∀ u∈l,u.vplain=true/\cl V (fnA s) u)->(∀ u∈m,u.vplain=true/\cl V (fnA s) u)->rL rec l m s=some (0,s')->Len V s s':=by
 intro l
 induction l with
 |nil=>intro m s s' _ _ _ _ h;cases h;exact⟨Nat.le_refl _,Nat.le_refl _⟩
 | cons x l ih =>
   intro m s s' hs hi hl hm h
   cases m with
   |nil=>cases h;exact⟨Nat.le_refl _,Nat.le_refl _⟩
   | cons y m =>
     rw[rL]at h
     cases hr:rec x y s with
     |none=>rw[hr]at h;cases h
     | some p =>
       obtain⟨e,s1⟩:=p;rw[hr]at h;simp only at h;by_cases he:e=0
       . subst he;rw[if_pos rfl]at h;have hx:=hl x (List.mem_cons_self ..);have hy:=hm y (List.mem_cons_self ..);obtain⟨g1,g2⟩:=hgood x y s 0 s1 hs hi hx.1 hy.1 hr rfl;have k:=hprog x y s s1 hs hi hx.1 hy.1 hx.2 hy.2 hr;have q1:=hrec x y s s1 hs hi hx.1 hy.1 hx.2 hy.2 hr;have q2:=ih m s1 s' g1 g2 (fun u hu=>⟨(hl u (List.mem_cons_of_mem _ hu)).1,k u (hl u (List.mem_cons_of_mem _ hu)).2⟩) (fun u hu=>⟨(hm u (List.mem_cons_of_mem _ hu)).1,k u (hm u (List.mem_cons_of_mem _ hu)).2⟩) h
         grind [Len]
       grind
theorem z4i{f:Nat}{a b:Ty}{s s':List Assign}{e:Int}(hs:pls s)(ha:a.vplain=true)(hb:b.vplain=true)(h:ruM f a b s=some (e,s')):∃ σ',uA f (fnA s) a b=some (e,σ')/\(e=0->fnA s'=σ'/\pls s'):=by
 have:=zAl f a b s hs ha hb;rw[h]at this
 cases hq:uA f (fnA s) a b with
 |none=>rw[hq]at this;exact this.elim
 | some q =>
   obtain⟨e',σ'⟩:=q;rw[hq]at this;obtain⟨rfl,h2⟩:=this
   grind
theorem zAm:∀ (f:Nat) (a b:Ty) (s s':List Assign),pls s->Idem (fnA s)->a.vplain=true->b.vplain=true->cl V (fnA s) a->cl V (fnA s) b->ruM f a b s=some (0,s')->Len V s s':=by
 intro f
 induction f with
 |zero=>intro a b s s' _ _ _ _ _ _ h;cases h
 | succ f ih =>
   intro a b s s' hs hi ha hb ca cb hr;have pa:=zbb hi.plain a ha;have pb:=zbb hi.plain b hb;have fa:=hi.app a;have fb:=hi.app b;rw[ruM,rS,zeu s a ha,zeu s b hb]at hr;have ca':cl V (fnA s) (a.app (fnA s)):=fun j hj=>ca j (by rw[hi.app]at hj;exact hj)
   have cb':cl V (fnA s) (b.app (fnA s)):=fun j hj=>cb j (by rw[hi.app]at hj;exact hj)
   split at hr
   . cases hr;exact⟨Nat.le_refl _,Nat.le_refl _⟩
   rename_i hne;generalize a.app (fnA s)=x at *;generalize b.app (fnA s)=y at *;have ox:∀ j,x.occ j=true->j∈V:=fun j hj=>ca' j (by rw[fa];exact hj)
   have oy:∀ j,y.occ j=true->j∈V:=fun j hj=>cb' j (by rw[fb];exact hj)
   split at hr
   . grind [zZ,zaf,zq4,zdv,za0]
   split at hr
   . grind [zZ,zaf,zq4,zdv,za0]
   split at hr
   . rename_i hk1 hk2 hsm;refine zA3 (V:=V) (fun a b s e s' hs hi ha hb h he=>?_) (fun a b s s' hs hi ha hb ca cb h u hu=>?_) ih x.args y.args s s' hs hi (fun u hu=>⟨vplains_iff.1 (zad pa) u hu,zos hk1 ca' u hu⟩) (fun u hu=>⟨vplains_iff.1 (zad pb) u hu,zos hk2 cb' u hu⟩) hr
     . subst he;obtain⟨σ',q1,q2⟩:=z4i hs ha hb h;obtain⟨rfl,q3⟩:=q2 rfl;exact⟨q3,((zlN f _ a b 0 _ hi ha hb q1).ok rfl).1⟩
     . obtain⟨σ',q1,q2⟩:=z4i hs ha hb h;obtain⟨rfl,q3⟩:=q2 rfl;exact(zqb f _ a b 0 _ hi ha hb ca cb q1).keep u hu
   . cases hr
end
end Go.J
/- Composing substitutions as the reference does;the reference's unification keeps types well-formed. -/
namespace Go.J
open Enc (enc)
theorem zlZ {s:List Assign} (hs:∀ a∈s,a.type.ok=true) (t:Ty):t.ok=true->(t.repl s).ok=true:=by
 induction t using Ty.ind with
 | h t ih =>
   intro ho;rw[zeI];by_cases hk:t.kind=1
   . rw[if_pos hk]
     cases hl:zP s t.id with
     |none=>exact ho
     | some u =>
       grind [zhf]
   . rw[if_neg hk];refine Ty.ok_iff.2 ⟨by simpa using Ty.ok_len ho,fun x hx=>?_⟩;obtain⟨u,hu,rfl⟩:=List.mem_map.1 (show x∈t.args.map (Ty.repl s) from hx);exact ih u hu (Ty.ok_arg ho hu)
def cpM(a b:List Assign):List Assign:=(a.map fun x=>⟨x.id,x.type.repl b⟩)++b.filter fun x=>!z5C a x.id
theorem z6o(s:List Assign)(x:Int)(t:Ty):cpM s [⟨x,t⟩]=zpE s x t:=by
 unfold cpM zpE zwO
 grind
theorem zCK{a b:List Assign}(ha:∀ x∈a,x.type.ok=true)(hb:∀ x∈b,x.type.ok=true):∀ x∈cpM a b,x.type.ok=true:=by
 grind [cpM,zlZ]
def okA(s:List Assign):Prop:=∀ a∈s,a.type.ok=true
theorem zq5{s:List Assign}(hs:okA s){x:Int}{t:Ty}(ht:t.ok=true){e:Int}{s':List Assign}(h:zy5 x t s=some (e,s')):okA s':=by
 unfold zy5 at h;split at h
 . cases h;exact fun a ha=>by cases ha
 . cases h;rw[<- z6o];exact zCK hs fun y hy=>by rw[List.mem_singleton.1 hy];exact ht
theorem zH9 {rec:Ty->Ty->List Assign->Option (Int×List Assign)} (hrec:∀ a b s e s',okA s->a.ok=true->b.ok=true->rec a b s=some (e,s')->okA s') :
 ∀ (l m:List Ty) (s:List Assign) (e:Int) (s':List Assign),okA s->(∀ u∈l,u.ok=true)->(∀ u∈m,u.ok=true)->rL rec l m s=some (e,s')->okA s':=by
 intro l
 induction l with
 |nil=>intro m s e s' hs _ _ h;cases h;exact hs
 | cons x l ih =>
   intro m s e s' hs hl hm h
   cases m with
   |nil=>cases h;exact hs
   | cons y m =>
     rw[rL]at h
     cases hr:rec x y s with
     |none=>rw[hr]at h;cases h
     | some p =>
       obtain⟨e1,s1⟩:=p;rw[hr]at h;simp only at h;by_cases he:e1=0
       . grind
       . rw[if_neg he]at h;cases h;exact fun a ha=>by cases ha
theorem zHv:∀ (f:Nat) (a b:Ty) (s:List Assign) (e:Int) (s':List Assign),okA s->a.ok=true->b.ok=true->ruM f a b s=some (e,s')->okA s':=by
 intro f
 induction f with
 |zero=>intro a b s e s' _ _ _ h;cases h
 | succ f ih =>
   intro a b s e s' hs ha hb h;rw[ruM,rS]at h;have oa:=zlZ hs a ha;have ob:=zlZ hs b hb;split at h
   . grind
   split at h
   . exact zq5 hs ob h
   split at h
   . exact zq5 hs oa h
   split at h
   . exact zH9 ih _ _ _ _ _ hs (Ty.ok_iff.1 oa).2 (Ty.ok_iff.1 ob).2 h
   . cases h;exact fun a ha=>by cases ha
structure RuC(V:List Int)(s:List Assign):Prop where
 ok:okA s
 pl:pls s
 id:Idem (fnA s)
 sh:V.length<=8000
 len:s.length+free V (fnA s)<=8000
theorem RuC.nil{V:List Int}(h:V.length<=8000):RuC V []:=by
 have h2:free V (fnA [])<=V.length:=List.countP_le_length;refine⟨fun a h=>(by cases h),fun a h=>(by cases h),?_,h,?_⟩
 . rw[z5M];exact zkO
 grind
theorem RuC.room{V:List Int}{s:List Assign}(h:RuC V s){x:Int}(hx:x∈V)(hf:fnA s x=za0 x):s.length+1<=8000:=by
 have h1:=h.len
 grind [free,fnA,List.countP_pos_iff]
theorem RuC.next{V:List Int}{f:Nat}{a b:Ty}{s s':List Assign}(h:RuC V s)(oa:a.ok=true)(ob:b.ok=true)(ha:a.vplain=true)(hb:b.vplain=true)(ca:cl V (fnA s) a)(cb:cl V (fnA s) b)(hr:ruM f a b s=some (0,s')) :
 RuC V s'/\∀ u,cl V (fnA s) u->cl V (fnA s') u:=by
 obtain⟨σ',q1,q2⟩:=z4i h.pl ha hb hr;obtain⟨rfl,q3⟩:=q2 rfl;have hl:=zAm f a b s s' h.pl h.id ha hb ca cb hr;exact⟨⟨zHv f a b s 0 s' h.ok oa ob hr,q3,((zlN f _ a b 0 _ h.id ha hb q1).ok rfl).1,h.sh,by have:=h.len;have:=hl.2;omega⟩,fun u hu=>(zqb f _ a b 0 _ h.id ha hb ca cb q1).keep u hu⟩
end Go.J
/- The types of chapter 15's laws: valid,with at most four variables;what their unifiers look like. -/
namespace Go.J
open Enc (enc)
theorem zvX(t:Ty):t.valid=true->t.ok=true:=by
 induction t using Ty.ind with
 | h t ih =>
   intro hv;have ha:=Ty.valid_args hv;refine Ty.ok_iff.2 ⟨?_,fun u hu=>ih u hu (ha u hu)⟩;obtain⟨k,n,i,h,l⟩:=t;unfold Ty.valid at hv;simp only[Ty.args_mk]
   grind
end Go.J
