import Derived.Test.YtfgmnebfhemnpaaJQ
import Derived.Test.YtfgmnebfhemnpaaJW
import Derived.Test.YtfgmnebfhemnpaaJL
import Derived.Test.YtfgmnebfhemnpaaJN
set_option linter.all false
noncomputable section
/- Unification of types by substitutions: what it computes is a most general unifier. -/
namespace Go.J
open Enc (enc)
abbrev Sub:=Int→Ty
def one(x:Int)(t:Ty):Sub:=fun j=>if j=x then t else tVar j
def compS(σ:Sub)(x:Int)(t:Ty):Sub:=fun i=>(σ i).app (one x t)
def bindA(x:Int)(t:Ty)(σ:Sub):Option (Int×Sub):=if t.occ x=true then some (12,σ)else some (0,compS σ x t)
def aL (rec:Sub→Ty→Ty→Option (Int×Sub)):List Ty→List Ty→Sub→Option (Int×Sub)
 | x::l,y::m,σ=>match rec σ x y with
   |some (e,σ')=>if e=0 then aL rec l m σ' else some (e,σ')
   |none=>none
 |_,_,σ=>some (0,σ)
def aS(rec:Sub→Ty→Ty→Option (Int×Sub))(σ:Sub)(a b:Ty):Option (Int×Sub) :=
 if a.app σ=b.app σ then some (0,σ)
 else if (a.app σ).kind=1 then bindA (a.app σ).id (b.app σ) σ
 else if (b.app σ).kind=1 then bindA (b.app σ).id (a.app σ) σ
 else if (a.app σ).same (b.app σ)=true then aL rec (a.app σ).args (b.app σ).args σ
 else some (11,σ)
def uA:Nat→Sub→Ty→Ty→Option (Int×Sub)
 | 0=>fun _ _ _=>none
 |f+1=>aS (uA f)
structure Idem(σ:Sub):Prop where
 plain:∀ i,(σ i).vplain=true
 idem:∀ i,(σ i).app σ=σ i
def After(σ τ:Sub):Prop:=∀ i,(σ i).app τ=τ i
theorem After.app{σ τ:Sub}(h:After σ τ)(t:Ty):(t.app σ).app τ=t.app τ:=by
 rw[app_app]
 exact app_congr t fun j _=>h j
theorem Idem.app{σ:Sub}(h:Idem σ)(t:Ty):(t.app σ).app σ=t.app σ:=After.app (σ:=σ) (τ:=σ) h.idem t
theorem After.trans{σ τ υ:Sub}(h:After σ τ)(k:After τ υ):After σ υ:=fun i=>by
 rw[← k.app,h i];exact k i
theorem plain_app{σ:Sub}(h:∀ i,(σ i).vplain=true)(t:Ty):t.vplain=true→(t.app σ).vplain=true:=by
 induction t using Ty.ind with
 | h t ih =>
   intro hp
   rw[app_eq]
   split
   · exact h _
   · rename_i hk
     have hv:=vplain_args hp
     refine vplain_node hk fun u hu=>?_
     obtain⟨w,hw,rfl⟩:=List.mem_map.1 hu
     exact ih w hw (vplains_iff.1 hv w hw)
theorem app_one{x:Int}{t u:Ty}(hu:u.vplain=true)(h:u.occ x=false):u.app (one x t)=u:=by
 rw[app_congr (η:=tVar) u fun j hj=>?_]
 · exact app_id u hu
 · unfold one
   rw[if_neg]
   intro e
   rw[e,h]at hj;cases hj
theorem app_tVar(θ:Sub)(j:Int):(tVar j).app θ=θ j:=by rw[app_eq];exact if_pos rfl
theorem map_fix{α:Type}{f:α→α}:∀ {l:List α},l.map f=l→∀ u∈l,f u=u:=by
 intro l
 induction l with
 |nil=>intro _ u hu;cases hu
 | cons a l ih =>
   intro h u hu
   rw[List.map_cons,List.cons.injEq]at h
   rcases List.mem_cons.1 hu with rfl|hu
   · exact h.1
   · exact ih h.2 u hu
theorem fix_free{σ:Sub}{j:Int}(t:Ty):t.app σ=t→t.occ j=true→t.vplain=true→σ j=tVar j:=by
 induction t using Ty.ind with
 | h t ih =>
   intro hi ho hp
   rw[app_eq]at hi
   rw[occ_eq]at ho
   by_cases hk:t.kind=1
   · rw[if_pos hk]at hi ho
     have e:t.id=j:=of_decide_eq_true ho
     rw[← e,hi]
     exact vplain_var hp hk
   · rw[if_neg hk]at hi ho
     obtain⟨u,hu,huo⟩:=List.any_eq_true.1 ho
     refine ih u hu ?_ huo (vplains_iff.1 (vplain_args hp) u hu)
     have hm:t.args.map (Ty.app σ)=t.args:=congrArg Ty.args hi
     exact map_fix hm u hu
theorem occ_free{σ:Sub}(h:Idem σ){i j:Int}(ho:(σ i).occ j=true):σ j=tVar j:=fix_free _ (h.idem i) ho (h.plain i)
theorem Idem.comp{σ:Sub}(h:Idem σ){x:Int}{t:Ty}(hx:σ x=tVar x)(ht:t.vplain=true)(htσ:t.app σ=t)(ho:t.occ x=false):Idem (compS σ x t)∧After σ (compS σ x t)∧compS σ x t x=t:=by
 have hone:∀ i,(one x t i).vplain=true:=fun i=>by
  unfold one;split
  · exact ht
  · exact vplain_tVar _
 have e1:∀ u:Ty,u.app (compS σ x t)=(u.app σ).app (one x t):=fun u=>(app_app σ (one x t) u).symm
 have e2:∀ i,((σ i).app (one x t)).app σ=(σ i).app (one x t):=fun i=>by
  rw[app_app]
  refine app_congr _ fun j hj=>?_
  unfold one
  split
  · exact htσ
  · -- a variable that occurs in an image is free
    rename_i hjx
    rw[app_tVar]
    exact(occ_free h hj)
 refine⟨⟨fun i=>plain_app hone _ (h.plain i),fun i=>?_⟩,fun i=>?_,?_⟩
 · rw[e1]
   show (((σ i).app (one x t)).app σ).app (one x t)=(σ i).app (one x t)
   rw[e2,app_app]
   refine app_congr _ fun j hj=>?_
   unfold one
   split
   · exact app_one ht ho
   · rename_i hjx
     rw[app_tVar]
     exact if_neg hjx
 · rw[e1,h.idem];rfl
 · show (σ x).app (one x t)=t
   rw[hx,app_tVar]
   exact if_pos rfl
theorem app_node{θ:Sub}{t:Ty}(hk:t.kind≠1):t.app θ=.mk t.kind t.name t.id t.home (t.args.map (Ty.app θ)):=by rw[app_eq,if_neg hk]
theorem app_size_occ{x:Int}{θ:Sub}(t:Ty):t.occ x=true→(θ x).size≤(t.app θ).size:=by
 induction t using Ty.ind with
 | h t ih =>
   intro ho
   rw[occ_eq]at ho
   by_cases hk:t.kind=1
   · rw[if_pos hk]at ho
     rw[app_eq,if_pos hk,of_decide_eq_true ho]
     exact Nat.le_refl _
   · rw[if_neg hk]at ho
     obtain⟨u,hu,huo⟩:=List.any_eq_true.1 ho
     have:=ih u hu huo
     rw[app_node hk]
     have h2:=Ty.size_arg (t:=.mk t.kind t.name t.id t.home (t.args.map (Ty.app θ))) (u:=u.app θ) (List.mem_map.2 ⟨u,hu,rfl⟩)
     omega
theorem occ_ne{x:Int}{t:Ty}(hne:t.kind≠1)(ho:t.occ x=true)(θ:Sub):¬ θ x=t.app θ:=by
 intro e
 rw[occ_eq,if_neg hne]at ho
 obtain⟨u,hu,huo⟩:=List.any_eq_true.1 ho
 have h1:=app_size_occ (θ:=θ) u huo
 rw[app_node hne]at e
 have h2:=Ty.size_arg (t:=.mk t.kind t.name t.id t.home (t.args.map (Ty.app θ))) (u:=u.app θ) (List.mem_map.2 ⟨u,hu,rfl⟩)
 rw[← e]at h2
 omega
structure Good1(σ:Sub)(e:Int)(σ':Sub)(P:Sub→Prop):Prop where
 ok:e=0→Idem σ'∧After σ σ'∧P σ'
 mgu:∀ θ,After σ θ→P θ→e=0∧After σ' θ
theorem bind_good{σ:Sub}(h:Idem σ){x:Int}{t:Ty}(hx:σ x=tVar x)(ht:t.vplain=true)(htσ:t.app σ=t)(hne:tVar x≠t){e:Int}{σ':Sub}(hr:bindA x t σ=some (e,σ')) :
 Good1 σ e σ' fun θ=>θ x=t.app θ:=by
 unfold bindA at hr
 split at hr
 · rename_i ho
   cases hr
   have hk:t.kind≠1:=fun hk=>by
    have e:=vplain_var ht hk
    rw[occ_eq,if_pos hk]at ho
    rw[of_decide_eq_true ho]at e
    exact hne e.symm
   exact⟨fun h=>(by cases h),fun θ hA hP=>absurd hP (occ_ne hk ho θ)⟩
 · rename_i ho
   cases hr
   have ho':t.occ x=false:=by simpa using ho
   obtain⟨h1,h2,h3⟩:=h.comp hx ht htσ ho'
   refine⟨fun _=>⟨h1,h2,?_⟩,fun θ hA hP=>⟨rfl,fun i=>?_⟩⟩
   · rw[h3]
     have e1:t.app (compS σ x t)=(t.app σ).app (one x t):=(app_app σ (one x t) t).symm
     rw[e1,htσ,app_one ht ho']
   · show ((σ i).app (one x t)).app θ=θ i
     rw[app_app,← hA i]
     refine app_congr _ fun j hj=>?_
     unfold one
     split
     · rename_i e;rw[e];exact hP.symm
     · exact app_tVar θ j
theorem aL_good {rec:Sub→Ty→Ty→Option (Int×Sub)} (hrec:∀ σ a b e σ',Idem σ→a.vplain=true→b.vplain=true→rec σ a b=some (e,σ')→Good1 σ e σ' fun θ=>a.app θ=b.app θ) :
 ∀ (l m:List Ty) (σ:Sub) (e:Int) (σ':Sub),l.length=m.length→Idem σ→(∀ u∈l,u.vplain=true)→(∀ u∈m,u.vplain=true)→aL rec l m σ=some (e,σ')→Good1 σ e σ' fun θ=>l.map (Ty.app θ)=m.map (Ty.app θ):=by
 intro l
 induction l with
 | nil =>
   intro m σ e σ' hlen h _ _ hr
   cases m with
   |nil=>cases hr;exact⟨fun _=>⟨h,h.idem,rfl⟩,fun θ hA _=>⟨rfl,hA⟩⟩
   |cons y m=>simp at hlen
 | cons x l ih =>
   intro m σ e σ' hlen h hl hm hr
   cases m with
   |nil=>simp at hlen
   | cons y m =>
     rw[aL]at hr
     cases hq:rec σ x y with
     |none=>rw[hq]at hr;cases hr
     | some r =>
       obtain⟨e1,σ1⟩:=r
       rw[hq]at hr
       have g:=hrec σ x y e1 σ1 h (hl x (List.mem_cons_self ..)) (hm y (List.mem_cons_self ..)) hq
       simp only at hr
       split at hr
       · rename_i he
         obtain⟨i1,i2,i3⟩:=g.ok he
         have g2:=ih m σ1 e σ' (by simpa using hlen) i1 (fun u hu=>hl u (List.mem_cons_of_mem _ hu)) (fun u hu=>hm u (List.mem_cons_of_mem _ hu)) hr
         refine⟨fun h0=>?_,fun θ hA hP=>?_⟩
         · obtain⟨j1,j2,j3⟩:=g2.ok h0
           refine⟨j1,i2.trans j2,?_⟩
           rw[List.map_cons,List.map_cons,j3,← j2.app x,i3,j2.app]
         · rw[List.map_cons,List.map_cons,List.cons.injEq]at hP
           exact g2.mgu θ (g.mgu θ hA hP.1).2 hP.2
       · rename_i he
         cases hr
         refine⟨fun h0=>absurd h0 he,fun θ hA hP=>?_⟩
         rw[List.map_cons,List.map_cons,List.cons.injEq]at hP
         exact absurd (g.mgu θ hA hP.1).1 he
theorem uA_good:∀ (f:Nat) (σ:Sub) (a b:Ty) (e:Int) (σ':Sub),Idem σ→a.vplain=true→b.vplain=true→uA f σ a b=some (e,σ')→Good1 σ e σ' fun θ=>a.app θ=b.app θ:=by
 intro f
 induction f with
 |zero=>intro σ a b e σ' _ _ _ hr;cases hr
 | succ f ih =>
   intro σ a b e σ' h ha hb hr
   have pa:=plain_app h.plain a ha
   have pb:=plain_app h.plain b hb
   have fa:=h.app a
   have fb:=h.app b
   -- 'a' and 'b' may be taken applied
   have lift:∀ {e σ'},(Good1 σ e σ' fun θ=>(a.app σ).app θ=(b.app σ).app θ)→Good1 σ e σ' fun θ=>a.app θ=b.app θ:=fun g =>
    ⟨fun h0=>by
      obtain⟨i1,i2,i3⟩:=g.ok h0
      exact⟨i1,i2,by rw[← i2.app a,← i2.app b];exact i3⟩,fun θ hA hP=>g.mgu θ hA (by rw[hA.app,hA.app];exact hP)⟩
   rw[uA,aS]at hr
   split at hr
   · rename_i heq
     cases hr
     exact lift ⟨fun _=>⟨h,h.idem,by rw[heq]⟩,fun θ hA _=>⟨rfl,hA⟩⟩
   rename_i hne
   apply lift
   clear lift
   generalize a.app σ=x at *
   generalize b.app σ=y at *
   split at hr
   · rename_i hk
     have ex:=vplain_var pa hk
     rw[ex,app_tVar]at fa
     have g:=bind_good h fa pb fb (by rw[← ex];exact hne) hr
     rw[ex]
     exact⟨fun h0=>by obtain⟨i1,i2,i3⟩:=g.ok h0;exact⟨i1,i2,by rw[app_tVar];exact i3⟩,fun θ hA hP=>g.mgu θ hA (by rw[app_tVar]at hP;exact hP)⟩
   split at hr
   · rename_i hk
     have ey:=vplain_var pb hk
     rw[ey,app_tVar]at fb
     have g:=bind_good h fb pa fa (by rw[← ey];exact fun e=>hne e.symm) hr
     rw[ey]
     exact⟨fun h0=>by obtain⟨i1,i2,i3⟩:=g.ok h0;exact⟨i1,i2,by rw[app_tVar];exact i3.symm⟩,fun θ hA hP=>g.mgu θ hA (by rw[app_tVar]at hP;exact hP.symm)⟩
   split at hr
   · rename_i hk1 hk2 hs
     have hlen:=(same_iff.1 hs).2.2.2.2
     have g:=aL_good ih x.args y.args σ e σ' hlen h (vplains_iff.1 (vplain_args pa)) (vplains_iff.1 (vplain_args pb)) hr
     obtain⟨q1,q2,q3,q4,_⟩:=same_iff.1 hs
     refine⟨fun h0=>?_,fun θ hA hP=>g.mgu θ hA ?_⟩
     · obtain⟨i1,i2,i3⟩:=g.ok h0
       exact⟨i1,i2,by rw[app_node hk1,app_node hk2,i3,q1,q2,q3,q4]⟩
     · rw[app_node hk1,app_node hk2]at hP
       exact congrArg Ty.args hP
   · rename_i hk1 hk2 hs
     cases hr
     refine⟨fun h0=>(by cases h0),fun θ hA hP=>?_⟩
     rw[app_node hk1,app_node hk2,Ty.mk.injEq]at hP
     refine absurd (same_iff.2 ⟨hP.1,hP.2.1,hP.2.2.1,hP.2.2.2.1,?_⟩) hs
     have:=congrArg List.length hP.2.2.2.2
     simpa using this
end Go.J
/- Unification by substitutions comes to an end. -/
namespace Go.J
open Enc (enc)
theorem aL_mono {r1 r2:Sub→Ty→Ty→Option (Int×Sub)} (h:∀ σ a b q,r1 σ a b=some q→r2 σ a b=some q):∀ (l m:List Ty) (σ:Sub) (q:Int×Sub),aL r1 l m σ=some q→aL r2 l m σ=some q:=by
 intro l
 induction l with
 |nil=>intro m σ q hq;exact hq
 | cons x l ih =>
   intro m σ q hq
   cases m with
   |nil=>exact hq
   | cons y m =>
     rw[aL]at hq ⊢
     cases hr:r1 σ x y with
     |none=>rw[hr]at hq;cases hq
     | some p =>
       obtain⟨e,σ1⟩:=p
       rw[hr]at hq
       rw[h _ _ _ _ hr]
       simp only at hq ⊢
       split
       · rename_i he;rw[if_pos he]at hq;exact ih m σ1 q hq
       · rename_i he;rw[if_neg he]at hq;exact hq
theorem uA_step:∀ (f:Nat) (σ:Sub) (a b:Ty) (q:Int×Sub),uA f σ a b=some q→uA (f+1) σ a b=some q:=by
 intro f
 induction f with
 |zero=>intro σ a b q h;cases h
 | succ f ih =>
   intro σ a b q h
   rw[uA,aS]at h ⊢
   split
   · rename_i h1;rw[if_pos h1]at h;exact h
   rename_i h1
   rw[if_neg h1]at h
   split
   · rename_i h2;rw[if_pos h2]at h;exact h
   rename_i h2
   rw[if_neg h2]at h
   split
   · rename_i h3;rw[if_pos h3]at h;exact h
   rename_i h3
   rw[if_neg h3]at h
   split
   · rename_i h4;rw[if_pos h4]at h;exact aL_mono (fun σ a b q hq=>ih σ a b q hq) _ _ _ _ h
   · rename_i h4;rw[if_neg h4]at h;exact h
theorem uA_mono{f g:Nat}(hfg:f≤g){σ:Sub}{a b:Ty}{q:Int×Sub}(h:uA f σ a b=some q):uA g σ a b=some q:=by
 induction hfg with
 |refl=>exact h
 |step _ ih=>exact uA_step _ _ _ _ _ ih
section
variable (V:List Int)
open Classical in
def free(σ:Sub):Nat:=V.countP fun i=>decide (σ i=tVar i)
def cl(σ:Sub)(u:Ty):Prop:=∀ j,(u.app σ).occ j=true→j∈V
structure Prog(σ σ':Sub):Prop where
 less:σ'=σ∨free V σ'<free V σ
 keep:∀ u,cl V σ u→cl V σ' u
variable {V}
theorem Prog.refl(σ:Sub):Prog V σ σ:=⟨.inl rfl,fun _ h=>h⟩
theorem Prog.trans{a b c:Sub}(h:Prog V a b)(k:Prog V b c):Prog V a c:=by
 refine⟨?_,fun u hu=>k.keep u (h.keep u hu)⟩
 rcases h.less with rfl|h1<;>rcases k.less with rfl|h2
 · exact .inl rfl
 · exact .inr h2
 · exact .inr h1
 · exact .inr (Nat.lt_trans h2 h1)
theorem occ_tVar(i j:Int):(tVar i).occ j=decide (i=j):=by rw[occ_eq];exact if_pos rfl
theorem occ_app{θ:Sub}{j:Int}(t:Ty):(t.app θ).occ j=true→∃ i,t.occ i=true∧(θ i).occ j=true:=by
 induction t using Ty.ind with
 | h t ih =>
   intro h
   by_cases hk:t.kind=1
   · rw[app_eq,if_pos hk]at h
     exact⟨t.id,by rw[occ_eq,if_pos hk];simp,h⟩
   · rw[app_node hk,occ_eq]at h
     simp only[Ty.kind_mk,Ty.args_mk,if_neg hk]at h
     obtain⟨u,hu,huo⟩:=List.any_eq_true.1 h
     obtain⟨w,hw,rfl⟩:=List.mem_map.1 hu
     obtain⟨i,h1,h2⟩:=ih w hw huo
     exact⟨i,by rw[occ_eq,if_neg hk];exact List.any_eq_true.2 ⟨w,hw,h1⟩,h2⟩
theorem countP_lt{α:Type}{p q:α→Bool}:∀ {l:List α} {x:α},x∈l→(∀ i,p i=true→q i=true)→p x=false→q x=true→l.countP p<l.countP q:=by
 intro l
 induction l with
 |nil=>intro x hx;cases hx
 | cons a l ih =>
   intro x hx h hp hq
   have hle:l.countP p≤l.countP q:=List.countP_mono_left fun i _=>h i
   rw[List.countP_cons,List.countP_cons]
   rcases List.mem_cons.1 hx with rfl|hx
   · rw[hp,hq];simp;omega
   · have:=ih hx h hp hq
     cases hpa:p a with
     |false=>cases hqa:q a<;>simp<;>omega
     |true=>rw[h a hpa];simp;omega
theorem bind_prog {σ:Sub} (h:Idem σ) {x:Int} {t:Ty} (hx:σ x=tVar x) (ht:t.vplain=true) (htσ:t.app σ=t) (hne:tVar x≠t) (hxV:x∈V) (htV:∀ j,t.occ j=true→j∈V) (ho:t.occ x=false):Prog V σ (compS σ x t):=by
 obtain⟨h1,h2,h3⟩:=h.comp hx ht htσ ho
 refine⟨.inr ?_,fun u hu j hj=>?_⟩
 · unfold free
   refine countP_lt hxV (fun i hi=>?_) ?_ (decide_eq_true hx)
   · have hi:(σ i).app (one x t)=tVar i:=of_decide_eq_true hi
     refine decide_eq_true ?_
     by_cases hk:(σ i).kind=1
     · have e:=vplain_var (h.plain i) hk
       rw[e,app_tVar]at hi
       unfold one at hi
       split at hi
       · rename_i ej
         exfalso
         rw[hi,app_tVar,e,ej]at htσ
         exact hne (by rw[hi];exact htσ)
       · rw[e,hi]
     · rw[app_node hk]at hi
       exact absurd (congrArg Ty.kind hi) hk
   · refine decide_eq_false fun e=>hne ?_
     rw[h3]at e;exact e.symm
 · have e:u.app (compS σ x t)=(u.app σ).app (one x t):=(app_app σ (one x t) u).symm
   rw[e]at hj
   obtain⟨i,hi,hj⟩:=occ_app _ hj
   unfold one at hj
   split at hj
   · exact htV j hj
   · rw[occ_tVar]at hj
     have:i=j:=of_decide_eq_true hj
     exact hu j (this ▸ hi)
theorem bindA_prog{σ:Sub}(h:Idem σ){x:Int}{t:Ty}(hx:σ x=tVar x)(ht:t.vplain=true)(htσ:t.app σ=t)(hne:tVar x≠t)(hxV:x∈V)(htV:∀ j,t.occ j=true→j∈V){e:Int}{σ':Sub}(hr:bindA x t σ=some (e,σ')):Prog V σ σ':=by
 unfold bindA at hr
 split at hr
 · cases hr;exact .refl σ
 · rename_i ho
   cases hr
   exact bind_prog h hx ht htσ hne hxV htV (by simpa using ho)
theorem aL_prog {rec:Sub→Ty→Ty→Option (Int×Sub)} (hgood:∀ σ a b e σ',Idem σ→a.vplain=true→b.vplain=true→rec σ a b=some (e,σ')→Good1 σ e σ' fun θ=>a.app θ=b.app θ)
 (hrec:∀ σ a b e σ',Idem σ→a.vplain=true→b.vplain=true→cl V σ a→cl V σ b→rec σ a b=some (e,σ')→Prog V σ σ') :
 ∀ (l m:List Ty) (σ:Sub) (e:Int) (σ':Sub),Idem σ→(∀ u∈l,u.vplain=true∧cl V σ u)→(∀ u∈m,u.vplain=true∧cl V σ u)→aL rec l m σ=some (e,σ')→Prog V σ σ':=by
 intro l
 induction l with
 |nil=>intro m σ e σ' h _ _ hr;cases hr;exact .refl _
 | cons x l ih =>
   intro m σ e σ' h hl hm hr
   cases m with
   |nil=>cases hr;exact .refl _
   | cons y m =>
     rw[aL]at hr
     cases hq:rec σ x y with
     |none=>rw[hq]at hr;cases hr
     | some r =>
       obtain⟨e1,σ1⟩:=r
       rw[hq]at hr
       obtain⟨x1,x2⟩:=hl x (List.mem_cons_self ..)
       obtain⟨y1,y2⟩:=hm y (List.mem_cons_self ..)
       have g:=hgood σ x y e1 σ1 h x1 y1 hq
       have p:=hrec σ x y e1 σ1 h x1 y1 x2 y2 hq
       simp only at hr
       split at hr
       · rename_i he
         obtain⟨i1,_,_⟩:=g.ok he
         exact p.trans (ih m σ1 e σ' i1 (fun u hu=>⟨(hl u (List.mem_cons_of_mem _ hu)).1,p.keep u (hl u (List.mem_cons_of_mem _ hu)).2⟩) (fun u hu=>⟨(hm u (List.mem_cons_of_mem _ hu)).1,p.keep u (hm u (List.mem_cons_of_mem _ hu)).2⟩) hr)
       · cases hr;exact p
theorem cl_arg{σ:Sub}{t:Ty}(hk:t.kind≠1)(h:cl V σ t):∀ u∈t.args,cl V σ u:=fun u hu j hj=>h j (by
 rw[app_node hk,occ_eq]
 simp only[Ty.kind_mk,Ty.args_mk,if_neg hk]
 exact List.any_eq_true.2 ⟨_,List.mem_map.2 ⟨u,hu,rfl⟩,hj⟩)
theorem uA_prog:∀ (f:Nat) (σ:Sub) (a b:Ty) (e:Int) (σ':Sub),Idem σ→a.vplain=true→b.vplain=true→cl V σ a→cl V σ b→uA f σ a b=some (e,σ')→Prog V σ σ':=by
 intro f
 induction f with
 |zero=>intro σ a b e σ' _ _ _ _ _ hr;cases hr
 | succ f ih =>
   intro σ a b e σ' h ha hb ca cb hr
   have pa:=plain_app h.plain a ha
   have pb:=plain_app h.plain b hb
   have fa:=h.app a
   have fb:=h.app b
   rw[uA,aS]at hr
   have ca':cl V σ (a.app σ):=fun j hj=>ca j (by rw[h.app]at hj;exact hj)
   have cb':cl V σ (b.app σ):=fun j hj=>cb j (by rw[h.app]at hj;exact hj)
   split at hr
   · cases hr;exact .refl _
   rename_i hne
   generalize a.app σ=x at *
   generalize b.app σ=y at *
   have ox:∀ j,x.occ j=true→j∈V:=fun j hj=>ca' j (by rw[fa];exact hj)
   have oy:∀ j,y.occ j=true→j∈V:=fun j hj=>cb' j (by rw[fb];exact hj)
   split at hr
   · rename_i hk
     have ex:=vplain_var pa hk
     rw[ex,app_tVar]at fa
     exact bindA_prog h fa pb fb (by rw[← ex];exact hne) (ox _ (by rw[ex,occ_tVar];simp[tVar])) oy hr
   split at hr
   · rename_i hk
     have ey:=vplain_var pb hk
     rw[ey,app_tVar]at fb
     exact bindA_prog h fb pa fa (by rw[← ey];exact fun e=>hne e.symm) (oy _ (by rw[ey,occ_tVar];simp[tVar])) ox hr
   split at hr
   · rename_i hk1 hk2 hs
     exact aL_prog (uA_good f) ih x.args y.args σ e σ' h (fun u hu=>⟨vplains_iff.1 (vplain_args pa) u hu,cl_arg hk1 ca' u hu⟩) (fun u hu=>⟨vplains_iff.1 (vplain_args pb) u hu,cl_arg hk2 cb' u hu⟩) hr
   · cases hr;exact .refl _
theorem uA_ends:∀ (N M:Nat) (σ:Sub) (a b:Ty),Idem σ→a.vplain=true→b.vplain=true→cl V σ a→cl V σ b→free V σ≤N→(a.app σ).size≤M→∃ f q,uA f σ a b=some q:=by
 intro N
 induction N using Nat.strongRecOn with
 | _ N ihN =>
   intro M
   induction M with
   |zero=>intro σ a b _ _ _ _ _ _ hM;have:=Ty.size_pos (a.app σ);omega
   | succ M ihM =>
     intro σ a b h ha hb ca cb hN hM
     by_cases h1:a.app σ=b.app σ
     · exact⟨1,_,by rw[uA,aS,if_pos h1]⟩
     by_cases h2:(a.app σ).kind=1
     · by_cases ho:(b.app σ).occ (a.app σ).id=true
       · exact⟨1,_,by rw[uA,aS,if_neg h1,if_pos h2,bindA,if_pos ho]⟩
       · exact⟨1,_,by rw[uA,aS,if_neg h1,if_pos h2,bindA,if_neg ho]⟩
     by_cases h3:(b.app σ).kind=1
     · by_cases ho:(a.app σ).occ (b.app σ).id=true
       · exact⟨1,_,by rw[uA,aS,if_neg h1,if_neg h2,if_pos h3,bindA,if_pos ho]⟩
       · exact⟨1,_,by rw[uA,aS,if_neg h1,if_neg h2,if_pos h3,bindA,if_neg ho]⟩
     by_cases h4:(a.app σ).same (b.app σ)=true
     case neg=>exact⟨1,_,by rw[uA,aS,if_neg h1,if_neg h2,if_neg h3,if_neg h4]⟩
     have pa:=plain_app h.plain a ha
     have pb:=plain_app h.plain b hb
     have fa:=h.app a
     have ca':cl V σ (a.app σ):=fun j hj=>ca j (by rw[h.app]at hj;exact hj)
     have cb':cl V σ (b.app σ):=fun j hj=>cb j (by rw[h.app]at hj;exact hj)
     have key:∀ (l m:List Ty) (τ:Sub),Idem τ→Prog V σ τ→(∀ u∈l,u.vplain=true∧cl V σ u∧u.app σ=u∧u.size≤M)→(∀ u∈m,u.vplain=true∧cl V σ u)→∃ f q,aL (uA f) l m τ=some q:=by
      intro l
      induction l with
      |nil=>intro m τ _ _ _ _;exact⟨0,_,rfl⟩
      | cons x l ihl =>
        intro m τ hτ hp hl hm
        cases m with
        |nil=>exact⟨0,_,rfl⟩
        | cons y m =>
          obtain⟨x1,x2,x3,x4⟩:=hl x (List.mem_cons_self ..)
          obtain⟨y1,y2⟩:=hm y (List.mem_cons_self ..)
          have hone:∃ f q,uA f τ x y=some q:=by
           rcases hp.less with rfl|hlt
           · exact ihM τ x y hτ x1 y1 x2 y2 hN (by rw[x3];exact x4)
           · exact ihN (free V τ) (by omega) (x.app τ).size τ x y hτ x1 y1 (hp.keep x x2) (hp.keep y y2) (Nat.le_refl _) (Nat.le_refl _)
          obtain⟨f1,⟨e1,τ1⟩,hf1⟩:=hone
          by_cases he:e1=0
          · have g:=uA_good f1 τ x y e1 τ1 hτ x1 y1 hf1
            have p:=uA_prog f1 τ x y e1 τ1 hτ x1 y1 (hp.keep x x2) (hp.keep y y2) hf1
            obtain⟨f2,q,hf2⟩:=ihl m τ1 (g.ok he).1 (hp.trans p) (fun u hu=>hl u (List.mem_cons_of_mem _ hu)) (fun u hu=>hm u (List.mem_cons_of_mem _ hu))
            refine⟨max f1 f2,q,?_⟩
            rw[aL,uA_mono (Nat.le_max_left f1 f2) hf1]
            simp only[if_pos he]
            exact aL_mono (fun σ a b q hq=>uA_mono (Nat.le_max_right f1 f2) hq) _ _ _ _ hf2
          · exact⟨f1,(e1,τ1),by rw[aL,hf1];simp only[if_neg he]⟩
     obtain⟨f,q,hf⟩:=key (a.app σ).args (b.app σ).args σ h (.refl σ) (fun u hu=>⟨vplains_iff.1 (vplain_args pa) u hu,cl_arg h2 ca' u hu,by
      rw[app_node h2]at fa
      exact map_fix (congrArg Ty.args fa) u hu,by have:=Ty.size_arg hu;omega⟩) (fun u hu=>⟨vplains_iff.1 (vplain_args pb) u hu,cl_arg h3 cb' u hu⟩)
     exact⟨f+1,q,by rw[uA,aS,if_neg h1,if_neg h2,if_neg h3,if_pos h4];exact hf⟩
end
end Go.J
/- The reference's unification of chapter 15 is unification by substitutions. -/
namespace Go.J
open Enc (enc)
def oneA(x:Int)(t:Ty):List Assign:=[⟨x,t⟩]
def cmpA(s:List Assign)(x:Int)(t:Ty):List Assign:=(s.map fun a=>⟨a.id,a.type.repl (oneA x t)⟩)++(if hasA s x=true then []else oneA x t)
def rasM(x:Int)(t:Ty)(s:List Assign):Option (Int×List Assign):=if t.occ x=true then some (12,[])else some (0,cmpA s x t)
def rL (rec:Ty→Ty→List Assign→Option (Int×List Assign)):List Ty→List Ty→List Assign→Option (Int×List Assign)
 | x::l,y::m,s=>match rec x y s with
   |some (e,s')=>if e=0 then rL rec l m s' else some (e,[])
   |none=>none
 |_,_,s=>some (0,s)
def rS(rec:Ty→Ty→List Assign→Option (Int×List Assign))(a b:Ty)(s:List Assign):Option (Int×List Assign) :=
 if a.repl s=b.repl s then some (0,s)
 else if (a.repl s).kind=1 then rasM (a.repl s).id (b.repl s) s
 else if (b.repl s).kind=1 then rasM (b.repl s).id (a.repl s) s
 else if (a.repl s).same (b.repl s)=true then rL rec (a.repl s).args (b.repl s).args s
 else some (11,[])
def ruM:Nat→Ty→Ty→List Assign→Option (Int×List Assign)
 | 0=>fun _ _ _=>none
 |f+1=>rS (ruM f)
def pls(s:List Assign):Prop:=∀ a∈s,a.type.vplain=true
theorem fnA_plain{s:List Assign}(h:pls s)(i:Int):(fnA s i).vplain=true:=by
 unfold fnA
 cases hl:lookA s i with
 |none=>exact vplain_tVar i
 | some t =>
   obtain⟨a,ha,rfl⟩:=lookA_mem hl
   exact h a ha
theorem fnA_one(x:Int)(t:Ty):fnA (oneA x t)=one x t:=by
 funext j
 unfold fnA oneA one
 rw[lookA]
 by_cases h:j=x
 · rw[if_pos h.symm,if_pos h];rfl
 · rw[if_neg fun e=>h e.symm,if_neg h];rfl
theorem look_map{s:List Assign}{f:Ty→Ty}(i:Int):lookA (s.map fun a=>⟨a.id,f a.type⟩) i=(lookA s i).map f:=by
 induction s with
 |nil=>rfl
 | cons a s ih =>
   rw[List.map_cons,lookA,lookA]
   split
   · rfl
   · exact ih
theorem cmpA_fn {s:List Assign} (hs:pls s) (x:Int) (t:Ty):fnA (cmpA s x t)=compS (fnA s) x t:=by
 funext i
 unfold compS
 have h1:fnA (cmpA s x t) i=((lookA (cmpA s x t) i).getD (tVar i)):=rfl
 rw[h1]
 unfold cmpA
 rw[lookA_app,look_map]
 cases hl:lookA s i with
 | some u =>
   obtain⟨a,ha,rfl⟩:=lookA_mem hl
   have h2:fnA s i=a.type:=by unfold fnA;rw[hl];rfl
   rw[h2]
   show (a.type.repl (oneA x t))=_
   rw[repl_app _ _ (hs a ha),fnA_one]
 | none =>
   have h2:fnA s i=tVar i:=by unfold fnA;rw[hl];rfl
   rw[h2,app_tVar]
   show ((lookA (if hasA s x=true then []else oneA x t) i).getD (tVar i))=one x t i
   by_cases hx:i=x
   · subst hx
     have:¬ hasA s i=true:=fun h=>(hasA_iff.1 h) hl
     rw[if_neg this]
     exact congrFun (fnA_one i t) i
   · have h3:one x t i=tVar i:=if_neg hx
     rw[h3]
     split
     · rfl
     · have:=congrFun (fnA_one x t) i
       rw[h3]at this;exact this
theorem cmpA_pls{s:List Assign}(hs:pls s){x:Int}{t:Ty}(ht:t.vplain=true):pls (cmpA s x t):=by
 intro a ha
 unfold cmpA at ha
 have hone:∀ i,(one x t i).vplain=true:=fun i=>by
  unfold one;split
  · exact ht
  · exact vplain_tVar _
 rcases List.mem_append.1 ha with ha|ha
 · obtain⟨b,hb,rfl⟩:=List.mem_map.1 ha
   show (b.type.repl (oneA x t)).vplain=true
   rw[repl_app _ _ (hs b hb),fnA_one]
   exact plain_app hone _ (hs b hb)
 · split at ha
   · cases ha
   · rw[List.mem_singleton.1 ha];exact ht
def SimR(r:Option (Int×List Assign))(q:Option (Int×Sub)):Prop:=match r,q with
 |none,none=>True
 |some (e,s),some (e',σ)=>e=e'∧(e=0→fnA s=σ∧pls s)
 |_,_=>False
theorem ras_sim{s:List Assign}(hs:pls s){x:Int}{t:Ty}(ht:t.vplain=true):SimR (rasM x t s) (bindA x t (fnA s)):=by
 unfold rasM bindA
 split
 · exact⟨rfl,fun h=>by cases h⟩
 · exact⟨rfl,fun _=>⟨cmpA_fn hs x t,cmpA_pls hs ht⟩⟩
theorem rL_sim {rec:Ty→Ty→List Assign→Option (Int×List Assign)} {rec2:Sub→Ty→Ty→Option (Int×Sub)} (hrec:∀ a b s,pls s→a.vplain=true→b.vplain=true→SimR (rec a b s) (rec2 (fnA s) a b)) :
 ∀ (l m:List Ty) (s:List Assign),pls s→(∀ u∈l,u.vplain=true)→(∀ u∈m,u.vplain=true)→SimR (rL rec l m s) (aL rec2 l m (fnA s)):=by
 intro l
 induction l with
 |nil=>intro m s hs _ _;exact⟨rfl,fun _=>⟨rfl,hs⟩⟩
 | cons x l ih =>
   intro m s hs hl hm
   cases m with
   |nil=>exact⟨rfl,fun _=>⟨rfl,hs⟩⟩
   | cons y m =>
     have h1:=hrec x y s hs (hl x (List.mem_cons_self ..)) (hm y (List.mem_cons_self ..))
     rw[rL,aL]
     cases hr:rec x y s with
     | none =>
       rw[hr]at h1
       cases hq:rec2 (fnA s) x y with
       |none=>exact trivial
       |some q=>rw[hq]at h1;exact h1.elim
     | some r =>
       obtain⟨e,s'⟩:=r
       rw[hr]at h1
       cases hq:rec2 (fnA s) x y with
       |none=>rw[hq]at h1;exact h1.elim
       | some q =>
         obtain⟨e',σ'⟩:=q
         rw[hq]at h1
         obtain⟨rfl,h2⟩:=h1
         simp only
         by_cases he:e=0
         · rw[if_pos he,if_pos he]
           obtain⟨rfl,h4⟩:=h2 he
           exact ih m s' h4 (fun u hu=>hl u (List.mem_cons_of_mem _ hu)) (fun u hu=>hm u (List.mem_cons_of_mem _ hu))
         · rw[if_neg he,if_neg he]
           exact⟨rfl,fun h=>absurd h he⟩
theorem ru_sim:∀ (f:Nat) (a b:Ty) (s:List Assign),pls s→a.vplain=true→b.vplain=true→SimR (ruM f a b s) (uA f (fnA s) a b):=by
 intro f
 induction f with
 |zero=>intro a b s _ _ _;exact trivial
 | succ f ih =>
   intro a b s hs ha hb
   rw[ruM,rS,uA,aS,repl_app s a ha,repl_app s b hb]
   have pa:=plain_app (fnA_plain hs) a ha
   have pb:=plain_app (fnA_plain hs) b hb
   generalize a.app (fnA s)=x at *
   generalize b.app (fnA s)=y at *
   split
   · exact⟨rfl,fun _=>⟨rfl,hs⟩⟩
   split
   · exact ras_sim hs pb
   split
   · exact ras_sim hs pa
   split
   · exact rL_sim ih _ _ _ hs (vplains_iff.1 (vplain_args pa)) (vplains_iff.1 (vplain_args pb))
   · exact⟨rfl,fun h=>by cases h⟩
theorem idem_tVar:Idem tVar:=⟨vplain_tVar,fun i=>app_tVar _ i⟩
theorem fnA_nil:fnA []=tVar:=rfl
end Go.J
/- Unifiers in triangular form. -/
namespace Go.J
open Enc (enc)
inductive Tri:List Assign→Sub→Prop
 |nil:Tri [] tVar
 |snoc {T:List Assign} {σ:Sub} {x:Int} {t:Ty}:Tri T σ→lookA T x=none→t.vplain=true→(t.app σ).occ x=false→Tri (T++[⟨x,t⟩]) (compS σ x (t.app σ))
theorem look_one{x:Int}{t:Ty}(i:Int):lookA [⟨x,t⟩] i=if x=i then some t else none:=by rw[lookA];rfl
structure TriP(T:List Assign)(σ:Sub):Prop where
 idem:Idem σ
 free:∀ i,lookA T i=none→σ i=tVar i
 res:∀ i u,lookA T i=some u→u.vplain=true∧σ i=u.app σ
theorem Tri.props {T:List Assign} {σ:Sub} (h:Tri T σ):TriP T σ:=by
 induction h with
 |nil=>exact⟨idem_tVar,fun i _=>rfl,fun i u h=>by cases h⟩
 | @snoc T σ x t h hx ht ho ih =>
   have hxf:=ih.free x hx
   have htp:=plain_app ih.idem.plain t ht
   have htf:=ih.idem.app t
   obtain⟨h1,h2,h3⟩:=ih.idem.comp hxf htp htf ho
   have e1:∀ u:Ty,u.app (compS σ x (t.app σ))=(u.app σ).app (one x (t.app σ)):=fun u=>(app_app σ (one x (t.app σ)) u).symm
   refine⟨h1,fun i hi=>?_,fun i u hi=>?_⟩
   · rw [lookA_app,look_one]at hi
     cases hl:lookA T i with
     |some u=>rw[hl]at hi;cases hi
     | none =>
       rw[hl]at hi
       by_cases e:x=i
       · rw[if_pos e]at hi;cases hi
       · show (σ i).app (one x (t.app σ))=tVar i
         rw[ih.free i hl,app_tVar]
         exact if_neg fun e'=>e e'.symm
   · rw [lookA_app,look_one]at hi
     cases hl:lookA T i with
     | some v =>
       rw[hl]at hi
       cases hi
       obtain⟨g1,g2⟩:=ih.res i u hl
       exact⟨g1,by rw[e1,← g2];rfl⟩
     | none =>
       rw[hl]at hi
       by_cases e:x=i
       · rw[if_pos e]at hi
         cases hi
         refine⟨ht,?_⟩
         rw[← e,h3,e1,app_one htp ho]
       · rw[if_neg e]at hi;cases hi
def belT(T:List Assign)(u t:Ty):Prop:=(t.kind=1∧lookA T t.id=some u)∨(t.kind≠1∧u∈t.args)
inductive RchT (T:List Assign) (x:Int):Ty→Prop
 |here {t:Ty}:t.kind=1→t.id=x→RchT T x t
 |down {t u:Ty}:belT T u t→RchT T x u→RchT T x t
theorem app_var{σ:Sub}{t:Ty}(hk:t.kind=1):t.app σ=σ t.id:=by rw[app_eq,if_pos hk]
theorem occ_node{t:Ty}(hk:t.kind≠1)(j:Int):t.occ j=t.args.any (Ty.occ j):=by rw[occ_eq,if_neg hk]
theorem RchT.occ{T:List Assign}{σ:Sub}(h:TriP T σ){x:Int}(hx:lookA T x=none){t:Ty}(hr:RchT T x t):(t.app σ).occ x=true:=by
 induction hr with
 |here hk hi=>rw[app_var hk,hi,h.free x hx,occ_tVar];simp
 | @down t u hb _ ih =>
   rcases hb with⟨hk,hl⟩|⟨hk,hu⟩
   · rw[app_var hk,(h.res _ _ hl).2];exact ih
   · rw[app_node hk,occ_eq]
     simp only[Ty.kind_mk,Ty.args_mk,if_neg hk]
     exact List.any_eq_true.2 ⟨_,List.mem_map.2 ⟨u,hu,rfl⟩,ih⟩
theorem Tri.acc {T:List Assign} {σ:Sub} (h:Tri T σ):∀ t:Ty,Acc (belT T) t:=by
 induction h with
 | nil =>
   intro t
   induction t using Ty.ind with
   | h t ih =>
     refine⟨_,fun u hu=>?_⟩
     rcases hu with⟨_,hl⟩|⟨_,hu⟩
     · cases hl
     · exact ih u hu
 | @snoc T σ x t h hx ht ho ih =>
   have hP:=h.props
   have hnr:¬ RchT T x t:=fun hr=>by rw[hr.occ hP hx]at ho;cases ho
   have hlk:∀ i,i≠x→lookA (T++[⟨x,t⟩]) i=lookA T i:=fun i hi=>by
    rw[lookA_app,look_one,if_neg fun e=>hi e.symm]
    cases lookA T i<;>rfl
   have key:∀ u,Acc (belT T) u→¬ RchT T x u→Acc (belT (T++[⟨x,t⟩])) u:=by
    intro u hu
    induction hu with
    | intro u _ ihu =>
      intro hr
      refine⟨_,fun v hv=>?_⟩
      have hv':belT T v u:=by
       rcases hv with⟨hk,hl⟩|h2
       · rw[hlk u.id fun e=>hr (.here hk e)]at hl
         exact .inl ⟨hk,hl⟩
       · exact .inr h2
      exact ihu v hv' fun hh=>hr (.down hv' hh)
   have hta:=key t (ih t) hnr
   intro u
   have hu:=ih u
   induction hu with
   | intro u _ ihu =>
     refine⟨_,fun v hv=>?_⟩
     by_cases hux:u.kind=1∧u.id=x
     · rcases hv with⟨_,hl⟩|⟨hk,_⟩
       · rw[hux.2,lookA_app,hx,look_one,if_pos rfl]at hl
         cases hl;exact hta
       · exact absurd hux.1 hk
     · refine ihu v ?_
       rcases hv with⟨hk,hl⟩|h2
       · rw[hlk u.id fun e=>hux ⟨hk,e⟩]at hl
         exact .inl ⟨hk,hl⟩
       · exact .inr h2
inductive Wk (T:List Assign):Ty→Ty→Nat→Prop
 |stop {t:Ty}:(t.kind=1→lookA T t.id=none)→Wk T t t 0
 |step {t u r:Ty} {n:Nat}:t.kind=1→lookA T t.id=some u→Wk T u r n→Wk T t r (n+1)
theorem Wk.uniq{T:List Assign}{t r r':Ty}{n n':Nat}(h:Wk T t r n):Wk T t r' n'→r'=r∧n'=n:=by
 induction h generalizing r' n' with
 | stop h =>
   intro h'
   cases h' with
   |stop _=>exact⟨rfl,rfl⟩
   |step hk hl _=>rw[h hk]at hl;cases hl
 | step hk hl _ ih =>
   intro h'
   cases h' with
   |stop h=>rw[h hk]at hl;cases hl
   | step _ hl' h' =>
     rw[hl]at hl'
     cases hl'
     obtain⟨rfl,rfl⟩:=ih h'
     exact⟨rfl,rfl⟩
theorem Tri.walk {T:List Assign} {σ:Sub} (h:Tri T σ) (t:Ty):t.vplain=true→∃ r n,Wk T t r n∧r.vplain=true∧r.app σ=t.app σ∧(r.kind=1→lookA T r.id=none):=by
 have hP:=h.props
 have ha:=h.acc t
 induction ha with
 | intro t _ ih =>
   intro ht
   by_cases hk:t.kind=1
   · cases hl:lookA T t.id with
     |none=>exact⟨t,0,.stop fun _=>hl,ht,rfl,fun _=>hl⟩
     | some u =>
       obtain⟨g1,g2⟩:=hP.res _ _ hl
       obtain⟨r,n,h1,h2,h3,h4⟩:=ih u (.inl ⟨hk,hl⟩) g1
       exact⟨r,n+1,.step hk hl h1,h2,by rw[h3,app_var hk,g2],h4⟩
   · exact⟨t,0,.stop fun h=>absurd h hk,ht,rfl,fun h=>absurd h hk⟩
end Go.J
/- The search for a variable in a triangular form. -/
namespace Go.J
open Enc (enc)
def ocL (rec:Ty→List Int→Option (Bool×List Int)):List Ty→List Int→Option (Bool×List Int)
 | [],S=>some (false,S)
 | u::l,S=>match rec u S with
   |some (b,S')=>if b=true then some (true,S')else ocL rec l S'
   |none=>none
def ocM (T:List Assign) (id:Int):Nat→Ty→List Int→Option (Bool×List Int)
 | 0=>fun _ _=>none
 | f + 1=>fun t S =>
   if t.kind=1 then
    if t.id=id then some (true,S)
    else match lookA T t.id with
     |none=>some (false,S)
     |some x=>if t.id∈S then some (false,S)else ocM T id f x (S++[t.id])
   else ocL (ocM T id f) t.args S
theorem ocL_mono{r1 r2:Ty→List Int→Option (Bool×List Int)}(h:∀ t S q,r1 t S=some q→r2 t S=some q):∀ (l:List Ty) (S:List Int) (q:Bool×List Int),ocL r1 l S=some q→ocL r2 l S=some q:=by
 intro l
 induction l with
 |nil=>intro S q h;exact h
 | cons u l ih =>
   intro S q hq
   rw[ocL]at hq ⊢
   cases hr:r1 u S with
   |none=>rw[hr]at hq;cases hq
   | some p =>
     obtain⟨b,S'⟩:=p
     rw[hr]at hq
     rw[h _ _ _ hr]
     simp only at hq ⊢
     split
     · rename_i hb;rw[if_pos hb]at hq;exact hq
     · rename_i hb;rw[if_neg hb]at hq;exact ih S' q hq
theorem ocM_step (T:List Assign) (id:Int):∀ (f:Nat) (t:Ty) (S:List Int) (q:Bool×List Int),ocM T id f t S=some q→ocM T id (f+1) t S=some q:=by
 intro f
 induction f with
 |zero=>intro t S q h;cases h
 | succ f ih =>
   intro t S q h
   rw[ocM]at h ⊢
   simp only at h ⊢
   split
   · rename_i hk
     rw[if_pos hk]at h
     split
     · rename_i h1;rw[if_pos h1]at h;exact h
     · rename_i h1
       rw[if_neg h1]at h
       split
       · rename_i h2;rw[h2]at h;exact h
       · rename_i x h2
         rw[h2]at h
         simp only at h
         split
         · rename_i h3;rw[if_pos h3]at h;exact h
         · rename_i h3;rw[if_neg h3]at h;exact ih _ _ _ h
   · rename_i hk
     rw[if_neg hk]at h
     exact ocL_mono ih _ _ _ h
theorem ocM_mono{T:List Assign}{id:Int}{f g:Nat}(hfg:f≤g){t:Ty}{S:List Int}{q:Bool×List Int}(h:ocM T id f t S=some q):ocM T id g t S=some q:=by
 induction hfg with
 |refl=>exact h
 |step _ ih=>exact ocM_step _ _ _ _ _ _ ih
def SOk(T:List Assign)(σ:Sub)(id:Int)(S:List Int)(t:Ty):Prop:=∀ j∈S,RchT T j t→(σ j).occ id=false
theorem acc_irr2{α:Type}{r:α→α→Prop}{a:α}(h:Acc r a):¬ Relation.TransGen r a a:=by
 have h2:=Acc.transGen h
 clear h
 induction h2 with
 |intro a _ ih=>exact fun hr=>ih a hr hr
theorem RchT.gen{T:List Assign}{x:Int}{u:Ty}(hl:lookA T x=some u){v:Ty}(h:RchT T x v):Relation.TransGen (belT T) u v:=by
 induction h with
 |here hk hi=>exact .single (.inl ⟨hk,by rw[hi];exact hl⟩)
 |down hb _ ih=>exact .tail ih hb
theorem Tri.nocycle{T:List Assign}{σ:Sub}(h:Tri T σ){x:Int}{u:Ty}(hl:lookA T x=some u):¬ RchT T x u:=fun hr=>acc_irr2 (h.acc u) (hr.gen hl)
theorem oc_ok {T:List Assign} {σ:Sub} (h:Tri T σ) {id:Int} (hid:lookA T id=none) {t:Ty} (ha:Acc (belT T) t):t.vplain=true→∀ S,SOk T σ id S t →
 ∃ f b S',ocM T id f t S=some (b,S')∧b=(t.app σ).occ id∧(b=false→∀ j∈S',j∈S∨(σ j).occ id=false):=by
 have hP:=h.props
 induction ha with
 | intro t _ ih =>
   intro hp S hS
   by_cases hk:t.kind=1
   · have hap := app_var (σ:=σ) hk
     by_cases h1:t.id=id
     · refine⟨1,true,S,?_,?_,fun h=>by cases h⟩
       · rw[ocM];simp only[if_pos hk,if_pos h1]
       · rw[hap,h1,hP.free id hid,occ_tVar];simp
     · cases hl:lookA T t.id with
       | none =>
         refine⟨1,false,S,?_,?_,fun _ j hj=>.inl hj⟩
         · rw[ocM];simp only[if_pos hk,if_neg h1,hl]
         · rw[hap,hP.free _ hl,occ_tVar];simp[h1]
       | some x =>
         obtain⟨g1,g2⟩:=hP.res _ _ hl
         by_cases h2:t.id∈S
         · refine⟨1,false,S,?_,?_,fun _ j hj=>.inl hj⟩
           · rw[ocM];simp only[if_pos hk,if_neg h1,hl,if_pos h2]
           · rw[hap];exact(hS _ h2 (.here hk rfl)).symm
         · obtain⟨f,b,S',q1,q2,q3⟩:=ih x (.inl ⟨hk,hl⟩) g1 (S++[t.id]) (fun j hj hr=>by
            rcases List.mem_append.1 hj with hj|hj
            · exact hS j hj (.down (.inl ⟨hk,hl⟩) hr)
            · rw[List.mem_singleton.1 hj]at hr
              exact absurd hr (h.nocycle hl))
           have hb:b=(t.app σ).occ id:=by rw[q2,hap,g2]
           refine⟨f+1,b,S',?_,hb,fun hf j hj=>?_⟩
           · rw[ocM];simp only[if_pos hk,if_neg h1,hl,if_neg h2];exact q1
           · rcases q3 hf j hj with hj|hj
             · rcases List.mem_append.1 hj with hj|hj
               · exact .inl hj
               · rw[List.mem_singleton.1 hj]
                 refine .inr ?_
                 rw[← hap,← hb,hf]
             · exact .inr hj
   · have key:∀ (l:List Ty) (S:List Int),(∀ u∈l,u∈t.args)→(∀ u∈l,SOk T σ id S u)→∃ f b S',ocL (ocM T id f) l S=some (b,S')∧b=(l.any fun u=>(u.app σ).occ id)∧(b=false→∀ j∈S',j∈S∨(σ j).occ id=false):=by
      intro l
      induction l with
      |nil=>intro S _ _;exact⟨0,false,S,rfl,rfl,fun _ j hj=>.inl hj⟩
      | cons u l ihl =>
        intro S hm hS
        have hu:=hm u (List.mem_cons_self ..)
        obtain⟨f1,b1,S1,q1,q2,q3⟩:=ih u (.inr ⟨hk,hu⟩) (vplains_iff.1 (vplain_args hp) u hu) S (hS u (List.mem_cons_self ..))
        cases b1 with
        |true=>exact⟨f1,true,S1,by rw[ocL,q1];simp,by rw[List.any_cons,← q2];rfl,fun h=>by cases h⟩
        | false =>
          obtain⟨f2,b2,S2,r1,r2,r3⟩:=ihl S1 (fun w hw=>hm w (List.mem_cons_of_mem _ hw)) (fun w hw j hj hr=>by
           rcases q3 rfl j hj with hj|hj
           · exact hS w (List.mem_cons_of_mem _ hw) j hj hr
           · exact hj)
          refine⟨max f1 f2,b2,S2,?_,by rw[List.any_cons,← q2,r2];rfl,fun hf j hj=>?_⟩
          · rw[ocL,ocM_mono (Nat.le_max_left f1 f2) q1]
            simp only[Bool.false_eq_true,if_false]
            exact ocL_mono (fun t S q hq=>ocM_mono (Nat.le_max_right f1 f2) hq) _ _ _ r1
          · rcases r3 hf j hj with hj|hj
            · exact q3 rfl j hj
            · exact .inr hj
     obtain⟨f,b,S',q1,q2,q3⟩:=key t.args S (fun u hu=>hu) (fun u hu j hj hr=>hS j hj (.down (.inr ⟨hk,hu⟩) hr))
     refine⟨f+1,b,S',?_,?_,q3⟩
     · rw[ocM];simp only[if_neg hk];exact q1
     · rw[q2,app_node hk,occ_eq]
       simp only[Ty.kind_mk,Ty.args_mk,if_neg hk,List.any_map]
       rfl
end Go.J
/- The triangle's unification is unification by substitutions. -/
namespace Go.J
open Enc (enc)
open Classical in
def wk(T:List Assign)(t:Ty):Option Ty:=if h:∃ r n,Wk T t r n then some h.choose else none
theorem wk_eq{T:List Assign}{t r:Ty}{n:Nat}(h:Wk T t r n):wk T t=some r:=by
 unfold wk
 have hex:∃ r n,Wk T t r n:=⟨r,n,h⟩
 rw[dif_pos hex]
 obtain⟨m,hm⟩:=hex.choose_spec
 rw[(h.uniq hm).1]
def bnM(f:Nat)(T:List Assign)(x:Int)(t:Ty):Option (Int×List Assign):=match ocM T x f t []with
 |some (b,_)=>some (if b=true then (12,T)else (0,T++[⟨x,t⟩]))
 |none=>none
def tL (rec:List Assign→Ty→Ty→Option (Int×List Assign)):List Ty→List Ty→List Assign→Option (Int×List Assign)
 | x::l,y::m,T=>match rec T x y with
   |some (e,T')=>if e=0 then tL rec l m T' else some (e,T')
   |none=>none
 |_,_,T=>some (0,T)
def tS(rec:List Assign→Ty→Ty→Option (Int×List Assign))(bn:List Assign→Int→Ty→Option (Int×List Assign))(T:List Assign)(x y:Ty):Option (Int×List Assign) :=
 if x.kind=1∧y.kind=1∧x.id=y.id then some (0,T)
 else if x.kind=1 then bn T x.id y
 else if y.kind=1 then bn T y.id x
 else if x.same y=true then tL rec x.args y.args T
 else some (11,T)
def tuM:Nat→List Assign→Ty→Ty→Option (Int×List Assign)
 | 0=>fun _ _ _=>none
 | f+1=>fun T a b=>match wk T a,wk T b with
   |some x,some y=>tS (tuM f) (bnM f) T x y
   |_,_=>none
theorem tL_mono {r1 r2:List Assign→Ty→Ty→Option (Int×List Assign)} (h:∀ T a b q,r1 T a b=some q→r2 T a b=some q):∀ (l m:List Ty) (T:List Assign) (q:Int×List Assign),tL r1 l m T=some q→tL r2 l m T=some q:=by
 intro l
 induction l with
 |nil=>intro m T q hq;exact hq
 | cons x l ih =>
   intro m T q hq
   cases m with
   |nil=>exact hq
   | cons y m =>
     rw[tL]at hq ⊢
     cases hr:r1 T x y with
     |none=>rw[hr]at hq;cases hq
     | some p =>
       obtain⟨e,T1⟩:=p
       rw[hr]at hq
       rw[h _ _ _ _ hr]
       simp only at hq ⊢
       split
       · rename_i he;rw[if_pos he]at hq;exact ih m T1 q hq
       · rename_i he;rw[if_neg he]at hq;exact hq
theorem bnM_mono{f g:Nat}(hfg:f≤g){T:List Assign}{x:Int}{t:Ty}{q:Int×List Assign}(h:bnM f T x t=some q):bnM g T x t=some q:=by
 unfold bnM at h ⊢
 cases hr:ocM T x f t []with
 |none=>rw[hr]at h;cases h
 |some p=>rw[hr]at h;rw[ocM_mono hfg hr];exact h
theorem tS_mono{r1 r2:List Assign→Ty→Ty→Option (Int×List Assign)}(h:∀ T a b q,r1 T a b=some q→r2 T a b=some q){b1 b2:List Assign→Int→Ty→Option (Int×List Assign)}(hb:∀ T x t q,b1 T x t=some q→b2 T x t=some q){T:List Assign}{x y:Ty}{q:Int×List Assign}(hq:tS r1 b1 T x y=some q):tS r2 b2 T x y=some q:=by
 unfold tS at hq ⊢
 split
 · rename_i h1;rw[if_pos h1]at hq;exact hq
 rename_i h1
 rw[if_neg h1]at hq
 split
 · rename_i h2;rw[if_pos h2]at hq;exact hb _ _ _ _ hq
 rename_i h2
 rw[if_neg h2]at hq
 split
 · rename_i h3;rw[if_pos h3]at hq;exact hb _ _ _ _ hq
 rename_i h3
 rw[if_neg h3]at hq
 split
 · rename_i h4;rw[if_pos h4]at hq;exact tL_mono h _ _ _ _ hq
 · rename_i h4;rw[if_neg h4]at hq;exact hq
theorem tuM_step:∀ (f:Nat) (T:List Assign) (a b:Ty) (q:Int×List Assign),tuM f T a b=some q→tuM (f+1) T a b=some q:=by
 intro f
 induction f with
 |zero=>intro T a b q h;cases h
 | succ f ih =>
   intro T a b q h
   rw[tuM]at h ⊢
   simp only at h ⊢
   cases h1:wk T a with
   |none=>rw[h1]at h;cases h
   | some x =>
     cases h2:wk T b with
     |none=>rw[h1,h2]at h;cases h
     | some y =>
       rw[h1,h2]at h
       exact tS_mono ih (fun T x t q hq=>bnM_mono (Nat.le_succ f) hq) h
theorem tuM_mono{f g:Nat}(hfg:f≤g){T:List Assign}{a b:Ty}{q:Int×List Assign}(h:tuM f T a b=some q):tuM g T a b=some q:=by
 induction hfg with
 |refl=>exact h
 |step _ ih=>exact tuM_step _ _ _ _ _ ih
theorem tuM_eq{f:Nat}{T:List Assign}{a b x y:Ty}{n m:Nat}(h1:Wk T a x n)(h2:Wk T b y m):tuM (f+1) T a b=tS (tuM f) (bnM f) T x y:=by
 rw[tuM];simp only[wk_eq h1,wk_eq h2]
theorem kind_app{σ:Sub}{t:Ty}(hk:t.kind≠1):(t.app σ).kind≠1:=by rw[app_node hk];exact hk
theorem eq_tu {T:List Assign} {σ:Sub} (h:Tri T σ):∀ (N:Nat) (a b:Ty),(a.app σ).size≤N→a.vplain=true→b.vplain=true→a.app σ=b.app σ→∃ g,tuM g T a b=some (0,T):=by
 have hP:=h.props
 intro N
 induction N with
 |zero=>intro a b hN;have:=Ty.size_pos (a.app σ);omega
 | succ N ih =>
   intro a b hN ha hb he
   obtain⟨x,n,w1,px,ex,fx⟩:=h.walk a ha
   obtain⟨y,m,w2,py,ey,fy⟩:=h.walk b hb
   have hxy:x.app σ=y.app σ:=by rw[ex,ey,he]
   by_cases hx:x.kind=1
   · have e1:x.app σ=tVar x.id:=by rw[app_var hx,hP.free _ (fx hx)]
     by_cases hy:y.kind=1
     · have e2:y.app σ=tVar y.id:=by rw[app_var hy,hP.free _ (fy hy)]
       rw[e1,e2]at hxy
       have hi0:(tVar x.id).id=(tVar y.id).id:=congrArg Ty.id hxy
       have hi:x.id=y.id:=hi0
       exact⟨1,by rw[tuM_eq w1 w2,tS,if_pos ⟨hx,hy,hi⟩]⟩
     · exact absurd (by rw[← hxy,e1];rfl) (kind_app (σ:=σ) hy)
   · by_cases hy:y.kind=1
     · have e2:y.app σ=tVar y.id:=by rw[app_var hy,hP.free _ (fy hy)]
       exact absurd (by rw[hxy,e2];rfl) (kind_app (σ:=σ) hx)
     · rw [app_node hx,app_node hy,Ty.mk.injEq]at hxy
       obtain⟨k1,k2,k3,k4,k5⟩:=hxy
       have hs:x.same y=true:=same_iff.2 ⟨k1,k2,k3,k4,by have:=congrArg List.length k5;simpa using this⟩
       have hsz:(x.app σ).size≤N+1:=by rw[ex];exact hN
       have key:∀ l m:List Ty,(∀ u∈l,u∈x.args)→(∀ u∈m,u∈y.args)→l.map (Ty.app σ)=m.map (Ty.app σ)→∃ g,tL (tuM g) l m T=some (0,T):=by
        intro l
        induction l with
        |nil=>intro m _ _ _;exact⟨0,rfl⟩
        | cons u l ihl =>
          intro m hl hm he2
          cases m with
          |nil=>cases he2
          | cons w m =>
            rw[List.map_cons,List.map_cons,List.cons.injEq]at he2
            have hu:=hl u (List.mem_cons_self ..)
            have hw:=hm w (List.mem_cons_self ..)
            have hsu:(u.app σ).size≤N:=by
             have:=Ty.size_arg (t:=x.app σ) (u:=u.app σ) (by rw[app_node hx];exact List.mem_map.2 ⟨u,hu,rfl⟩)
             omega
            obtain⟨g1,q1⟩:=ih u w hsu (vplains_iff.1 (vplain_args px) u hu) (vplains_iff.1 (vplain_args py) w hw) he2.1
            obtain⟨g2,q2⟩:=ihl m (fun v hv=>hl v (List.mem_cons_of_mem _ hv)) (fun v hv=>hm v (List.mem_cons_of_mem _ hv)) he2.2
            refine⟨max g1 g2,?_⟩
            rw[tL,tuM_mono (Nat.le_max_left g1 g2) q1]
            simp only[if_true]
            exact tL_mono (fun T a b q hq=>tuM_mono (Nat.le_max_right g1 g2) hq) _ _ _ _ q2
       obtain⟨g,hg⟩:=key x.args y.args (fun u hu=>hu) (fun u hu=>hu) k5
       exact⟨g+1,by rw[tuM_eq w1 w2,tS,if_neg fun h=>hx h.1,if_neg hx,if_neg hy,if_pos hs];exact hg⟩
theorem bn_sim{T:List Assign}{σ:Sub}(h:Tri T σ){x:Int}{t:Ty}(hx:lookA T x=none)(ht:t.vplain=true){e:Int}{σ':Sub}(hr:bindA x (t.app σ) σ=some (e,σ')):∃ g T',bnM g T x t=some (e,T')∧(e=0→Tri T' σ'):=by
 obtain⟨f,b,S',q1,q2,_⟩:=oc_ok h hx (h.acc t) ht [] (fun j hj=>by cases hj)
 unfold bindA at hr
 split at hr
 · rename_i ho
   cases hr
   refine⟨f,T,?_,fun h=>by cases h⟩
   unfold bnM
   rw[q1,q2,ho];rfl
 · rename_i ho
   cases hr
   have ho':(t.app σ).occ x=false:=by simpa using ho
   refine⟨f,T++[⟨x,t⟩],?_,fun _=>.snoc h hx ht ho'⟩
   unfold bnM
   rw[q1,q2,ho'];rfl
theorem uA_app{f:Nat}{σ τ:Sub}(h:After σ τ)(a b:Ty):uA f τ (a.app σ) (b.app σ)=uA f τ a b:=by
 cases f with
 |zero=>rfl
 |succ f=>rw[uA,aS,aS,h.app,h.app]
theorem tu_sim:∀ (f:Nat) (T:List Assign) (σ:Sub) (a b:Ty) (e:Int) (σ':Sub),Tri T σ→a.vplain=true→b.vplain=true→uA f σ a b=some (e,σ')→∃ g T',tuM g T a b=some (e,T')∧(e=0→Tri T' σ'):=by
 intro f
 induction f with
 |zero=>intro T σ a b e σ' _ _ _ hr;cases hr
 | succ f ih =>
   intro T σ a b e σ' h ha hb hr
   have hP:=h.props
   obtain⟨x,n,w1,px,ex,fx⟩:=h.walk a ha
   obtain⟨y,m,w2,py,ey,fy⟩:=h.walk b hb
   rw[uA,aS]at hr
   split at hr
   · rename_i he
     cases hr
     obtain⟨g,hg⟩:=eq_tu h _ a b (Nat.le_refl _) ha hb he
     exact⟨g,T,hg,fun _=>h⟩
   rename_i hne
   rw[← ex,← ey]at hr hne
   have hns:¬ (x.kind=1∧y.kind=1∧x.id=y.id):=fun ⟨h1,h2,h3⟩=>hne (by rw[app_var h1,app_var h2,h3])
   split at hr
   · rename_i hk
     have hx:x.kind=1:=Classical.byContradiction fun hn=>kind_app hn hk
     have e1:x.app σ=tVar x.id:=by rw[app_var hx,hP.free _ (fx hx)]
     rw[e1]at hr
     obtain⟨g,T',q1,q2⟩:=bn_sim h (fx hx) py hr
     exact⟨g+1,T',by rw[tuM_eq w1 w2,tS,if_neg hns,if_pos hx];exact q1,q2⟩
   rename_i hk1
   have hx:x.kind≠1:=fun hx=>hk1 (by rw[app_var hx,hP.free _ (fx hx)];rfl)
   split at hr
   · rename_i hk
     have hy:y.kind=1:=Classical.byContradiction fun hn=>kind_app hn hk
     have e2:y.app σ=tVar y.id:=by rw[app_var hy,hP.free _ (fy hy)]
     rw[e2]at hr
     obtain⟨g,T',q1,q2⟩:=bn_sim h (fy hy) px hr
     exact⟨g+1,T',by rw[tuM_eq w1 w2,tS,if_neg hns,if_neg hx,if_pos hy];exact q1,q2⟩
   rename_i hk2
   have hy:y.kind≠1:=fun hy=>hk2 (by rw[app_var hy,hP.free _ (fy hy)];rfl)
   have hsm:(x.app σ).same (y.app σ)=x.same y:=by
    rw[Bool.eq_iff_iff,same_iff,same_iff,app_node hx,app_node hy]
    simp
   rw[hsm]at hr
   split at hr
   · rename_i hs
     have hax:(x.app σ).args=x.args.map (Ty.app σ):=by rw[app_node hx];rfl
     have hay:(y.app σ).args=y.args.map (Ty.app σ):=by rw[app_node hy];rfl
     rw[hax,hay]at hr
     have key:∀ (l m:List Ty) (T1:List Assign) (τ:Sub) (e:Int) (σ':Sub),Tri T1 τ→After σ τ→(∀ u∈l,u.vplain=true)→(∀ u∈m,u.vplain=true)→aL (uA f) (l.map (Ty.app σ)) (m.map (Ty.app σ)) τ=some (e,σ')→∃ g T',tL (tuM g) l m T1=some (e,T')∧(e=0→Tri T' σ'):=by
      intro l
      induction l with
      |nil=>intro m T1 τ e σ' h1 _ _ _ hr;cases hr;exact⟨0,T1,rfl,fun _=>h1⟩
      | cons u l ihl =>
        intro m T1 τ e σ' h1 hA hl hm hr
        cases m with
        |nil=>cases hr;exact⟨0,T1,rfl,fun _=>h1⟩
        | cons w m =>
          rw[List.map_cons,List.map_cons,aL,uA_app hA]at hr
          have pu:=hl u (List.mem_cons_self ..)
          have pw:=hm w (List.mem_cons_self ..)
          cases hq:uA f τ u w with
          |none=>rw[hq]at hr;cases hr
          | some p =>
            obtain⟨e1,τ1⟩:=p
            rw[hq]at hr
            obtain⟨g1,T2,q1,q2⟩:=ih T1 τ u w e1 τ1 h1 pu pw hq
            have gd:=uA_good f τ u w e1 τ1 h1.props.idem pu pw hq
            simp only at hr
            split at hr
            · rename_i he
              obtain⟨_,i2,_⟩:=gd.ok he
              obtain⟨g2,T3,r1,r2⟩:=ihl m T2 τ1 e σ' (q2 he) (hA.trans i2) (fun v hv=>hl v (List.mem_cons_of_mem _ hv)) (fun v hv=>hm v (List.mem_cons_of_mem _ hv)) hr
              refine⟨max g1 g2,T3,?_,r2⟩
              rw[tL,tuM_mono (Nat.le_max_left g1 g2) q1]
              simp only[if_pos he]
              exact tL_mono (fun T a b q hq=>tuM_mono (Nat.le_max_right g1 g2) hq) _ _ _ _ r1
            · rename_i he
              cases hr
              exact⟨g1,T2,by rw[tL,q1];simp only[if_neg he],fun h=>absurd h he⟩
     obtain⟨g,T',q1,q2⟩:=key x.args y.args T σ e σ' h hP.idem.idem (vplains_iff.1 (vplain_args px)) (vplains_iff.1 (vplain_args py)) hr
     exact⟨g+1,T',by rw[tuM_eq w1 w2,tS,if_neg hns,if_neg hx,if_neg hy,if_pos hs];exact q1,q2⟩
   · rename_i hs
     cases hr
     exact⟨1,T,by rw[tuM_eq w1 w2,tS,if_neg hns,if_neg hx,if_neg hy,if_neg hs],fun h=>by cases h⟩
end Go.J
/- Resolving a triangular form;what is found are most general unifiers. -/
namespace Go.J
open Enc (enc)
theorem Tri.bound {T:List Assign} {σ:Sub} (h:Tri T σ):∀ j,lookA T j≠none→σ j≠tVar j:=by
 induction h with
 |nil=>intro j hj;exact absurd rfl hj
 | @snoc T σ x t h hx ht ho ih =>
   intro j hj he
   have hP:=h.props
   have htf:=hP.idem.app t
   have he:(σ j).app (one x (t.app σ))=tVar j:=he
   by_cases hjx:j=x
   · subst hjx
     rw[hP.free j hx,app_tVar]at he
     have he:t.app σ=tVar j:=by
      have h1:one j (t.app σ) j=t.app σ:=if_pos rfl
      rw[← h1];exact he
     rw[he,occ_tVar]at ho
     simp at ho
   · have hj2:lookA T j≠none:=by
      rw[lookA_app,look_one,if_neg fun e=>hjx e.symm]at hj
      cases hl:lookA T j with
      |none=>rw[hl]at hj;exact absurd rfl hj
      |some u=>exact fun e=>by cases e
     by_cases hk:(σ j).kind=1
     · have e:=vplain_var (hP.idem.plain j) hk
       rw[e,app_tVar]at he
       unfold one at he
       split at he
       · rw[he,app_tVar]at htf
         exact ih j hj2 htf
       · exact ih j hj2 (by rw[e,he])
     · rw[app_node hk]at he
       exact hk (congrArg Ty.kind he)
def rsL (rec:Ty→List Assign→Option (Ty×List Assign)):List Ty→List Assign→Option (List Ty×List Assign)
 | [],D=>some ([],D)
 | u :: l,D=>match rec u D with
   | some (r,D')=>match rsL rec l D' with
     |some (m,D2)=>some (r::m,D2)
     |none=>none
   |none=>none
def rsM (T:List Assign):Nat→Ty→List Assign→Option (Ty×List Assign)
 | 0=>fun _ _=>none
 | f + 1 => fun t D =>
   if t.kind=1 then match lookA T t.id with
    |none=>some (t,D)
    | some x=>match lookA D t.id with
      |some r=>some (r,D)
      | none=>match rsM T f x D with
        |some (r,D')=>some (r,D'++[⟨t.id,r⟩])
        |none=>none
   else match rsL (rsM T f) t.args D with
    |some (m,D')=>some (.mk t.kind t.name t.id t.home m,D')
    |none=>none
theorem rsL_mono{r1 r2:Ty→List Assign→Option (Ty×List Assign)}(h:∀ t D q,r1 t D=some q→r2 t D=some q):∀ (l:List Ty) (D:List Assign) (q:List Ty×List Assign),rsL r1 l D=some q→rsL r2 l D=some q:=by
 intro l
 induction l with
 |nil=>intro D q h;exact h
 | cons u l ih =>
   intro D q hq
   rw[rsL]at hq ⊢
   cases hr:r1 u D with
   |none=>rw[hr]at hq;cases hq
   | some p =>
     obtain⟨r,D'⟩:=p
     rw[hr]at hq
     rw[h _ _ _ hr]
     simp only at hq ⊢
     cases hr2:rsL r1 l D' with
     |none=>rw[hr2]at hq;cases hq
     |some p2=>rw[hr2]at hq;rw[ih _ _ hr2];exact hq
theorem rsM_step (T:List Assign):∀ (f:Nat) (t:Ty) (D:List Assign) (q:Ty×List Assign),rsM T f t D=some q→rsM T (f+1) t D=some q:=by
 intro f
 induction f with
 |zero=>intro t D q h;cases h
 | succ f ih =>
   intro t D q h
   rw[rsM]at h ⊢
   simp only at h ⊢
   split
   · rename_i hk
     rw[if_pos hk]at h
     cases hl:lookA T t.id with
     |none=>rw[hl]at h;exact h
     | some x =>
       rw[hl]at h
       simp only at h ⊢
       cases hd:lookA D t.id with
       |some r=>rw[hd]at h;exact h
       | none =>
         rw[hd]at h
         simp only at h ⊢
         cases hr:rsM T f x D with
         |none=>rw[hr]at h;cases h
         |some p=>rw[hr]at h;rw[ih _ _ _ hr];exact h
   · rename_i hk
     rw[if_neg hk]at h
     cases hr:rsL (rsM T f) t.args D with
     |none=>rw[hr]at h;cases h
     |some p=>rw[hr]at h;rw[rsL_mono ih _ _ _ hr];exact h
theorem rsM_mono{T:List Assign}{f g:Nat}(hfg:f≤g){t:Ty}{D:List Assign}{q:Ty×List Assign}(h:rsM T f t D=some q):rsM T g t D=some q:=by
 induction hfg with
 |refl=>exact h
 |step _ ih=>exact rsM_step _ _ _ _ _ ih
def DOkT(σ:Sub)(D:List Assign):Prop:=∀ i r,lookA D i=some r→r=σ i
theorem rs_ok {T:List Assign} {σ:Sub} (h:Tri T σ) {t:Ty} (ha:Acc (belT T) t):t.vplain=true→∀ D,DOkT σ D →
 ∃ f D',rsM T f t D=some (t.app σ,D')∧DOkT σ D'∧∀ i,lookA D i=none→lookA D' i≠none→RchT T i t:=by
 have hP:=h.props
 induction ha with
 | intro t _ ih =>
   intro hp D hD
   by_cases hk:t.kind=1
   · have hap:=app_var (σ:=σ) hk
     cases hl:lookA T t.id with
     | none =>
       refine⟨1,D,?_,hD,fun i h1 h2=>absurd h1 h2⟩
       rw[rsM];simp only[if_pos hk,hl]
       rw[hap,hP.free _ hl,← vplain_var hp hk]
     | some x =>
       obtain⟨g1,g2⟩:=hP.res _ _ hl
       cases hd:lookA D t.id with
       | some r =>
         refine⟨1,D,?_,hD,fun i h1 h2=>absurd h1 h2⟩
         rw[rsM];simp only[if_pos hk,hl,hd]
         rw[hap,hD _ _ hd]
       | none =>
         obtain⟨f,D',q1,q2,q3⟩:=ih x (.inl ⟨hk,hl⟩) g1 D hD
         have hx':x.app σ=σ t.id:=g2.symm
         refine⟨f+1,D'++[⟨t.id,x.app σ⟩],?_,fun i r hi=>?_,fun i h1 h2=>?_⟩
         · rw[rsM];simp only[if_pos hk,hl,hd,q1]
           rw[hap,hx']
         · rw [lookA_app,look_one]at hi
           cases hi2:lookA D' i with
           |some v=>rw[hi2]at hi;cases hi;exact q2 i _ hi2
           | none =>
             rw[hi2]at hi
             by_cases e:t.id=i
             · rw[if_pos e]at hi
               cases hi
               rw[hx',e]
             · rw[if_neg e]at hi;cases hi
         · rw[lookA_app,look_one]at h2
           cases hi2:lookA D' i with
           |some v=>exact .down (.inl ⟨hk,hl⟩) (q3 i h1 (by rw[hi2];exact fun e=>by cases e))
           | none =>
             rw[hi2]at h2
             by_cases e:t.id=i
             · exact .here hk e
             · rw[if_neg e]at h2;exact absurd rfl h2
   · have key:∀ (l:List Ty) (D:List Assign),(∀ u∈l,u∈t.args)→DOkT σ D→∃ f D',rsL (rsM T f) l D=some (l.map (Ty.app σ),D')∧DOkT σ D'∧∀ i,lookA D i=none→lookA D' i≠none→RchT T i t:=by
      intro l
      induction l with
      |nil=>intro D _ hD;exact⟨0,D,rfl,hD,fun i h1 h2=>absurd h1 h2⟩
      | cons u l ihl =>
        intro D hm hD
        have hu:=hm u (List.mem_cons_self ..)
        obtain⟨f1,D1,q1,q2,q3⟩:=ih u (.inr ⟨hk,hu⟩) (vplains_iff.1 (vplain_args hp) u hu) D hD
        obtain⟨f2,D2,r1,r2,r3⟩:=ihl D1 (fun w hw=>hm w (List.mem_cons_of_mem _ hw)) q2
        refine⟨max f1 f2,D2,?_,r2,fun i h1 h2=>?_⟩
        · rw[rsL,rsM_mono (Nat.le_max_left f1 f2) q1]
          simp only
          rw[rsL_mono (fun t D q hq=>rsM_mono (Nat.le_max_right f1 f2) hq) _ _ _ r1]
          rfl
        · cases hi:lookA D1 i with
          |none=>exact r3 i hi h2
          |some v=>exact .down (.inr ⟨hk,hu⟩) (q3 i h1 (by rw[hi];exact fun e=>by cases e))
     obtain⟨f,D',q1,q2,q3⟩:=key t.args D (fun u hu=>hu) hD
     refine⟨f+1,D',?_,q2,q3⟩
     rw[rsM];simp only[if_neg hk,q1]
     rw[app_node hk]
theorem rs_new{T:List Assign}{σ:Sub}(h:Tri T σ){x:Int}{u:Ty}(hl:lookA T x=some u){D D':List Assign}(hd:lookA D x=none)(h3:∀ i,lookA D i=none→lookA D' i≠none→RchT T i u):lookA D' x=none:=by
 cases hx:lookA D' x with
 |none=>rfl
 |some r=>exact absurd (h3 x hd (by rw[hx];exact fun e=>by cases e)) (h.nocycle hl)
def asgF(T:List Assign)(σ:Sub)(ids:List Int):List Assign:=(ids.filter fun i=>(lookA T i).isSome).map fun i=>⟨i,σ i⟩
theorem asgF_look {T:List Assign} {σ:Sub} (i:Int):∀ ids:List Int,lookA (asgF T σ ids) i=if i∈ids∧(lookA T i).isSome=true then some (σ i)else none:=by
 intro ids
 induction ids with
 |nil=>simp[asgF,lookA]
 | cons x l ih =>
   unfold asgF at ih ⊢
   rw[List.filter_cons]
   by_cases hx:(lookA T x).isSome=true
   · rw [if_pos hx,List.map_cons,lookA,ih]
     by_cases e:x=i
     · subst e
       rw[if_pos rfl,if_pos ⟨List.mem_cons_self ..,hx⟩]
     · rw[if_neg e]
       have:(i∈x::l)↔i∈l:=by
        rw[List.mem_cons];exact⟨fun h=>h.resolve_left fun e'=>e e'.symm,.inr⟩
       simp only[this]
   · rw [if_neg hx,ih]
     by_cases e:x=i
     · subst e
       rw[if_neg fun h=>hx h.2,if_neg fun h=>hx h.2]
     · have:(i∈x::l)↔i∈l:=by
        rw[List.mem_cons];exact⟨fun h=>h.resolve_left fun e'=>e e'.symm,.inr⟩
       simp only[this]
theorem asgF_fn{T:List Assign}{σ:Sub}(h:TriP T σ){ids:List Int}{i:Int}(hi:i∈ids):fnA (asgF T σ ids) i=σ i:=by
 unfold fnA
 rw[asgF_look]
 by_cases hs:(lookA T i).isSome=true
 · rw[if_pos ⟨hi,hs⟩];rfl
 · rw[if_neg fun hh=>hs hh.2]
   have hn:lookA T i=none:=by
    cases hl:lookA T i with
    |none=>rfl
    |some u=>rw[hl]at hs;exact absurd rfl hs
   exact(h.free i hn).symm
theorem asgF_free{T:List Assign}{σ:Sub}(h:Tri T σ){ids:List Int}{j:Int}(hj:σ j=tVar j):fnA (asgF T σ ids) j=tVar j:=by
 unfold fnA
 rw[asgF_look]
 by_cases hs:(lookA T j).isSome=true
 · exact absurd hj (h.bound j fun e=>by rw[e]at hs;cases hs)
 · rw[if_neg fun hh=>hs hh.2];rfl
theorem asgF_repl{T:List Assign}{σ:Sub}(h:Tri T σ){ids:List Int}{t:Ty}(ht:t.vplain=true)(hv:∀ j,t.occ j=true→j∈ids):t.repl (asgF T σ ids)=t.app σ:=by
 rw[repl_app _ _ ht]
 exact app_congr t fun j hj=>asgF_fn h.props (hv j hj)
theorem asgF_idem{T:List Assign}{σ:Sub}(h:Tri T σ){ids:List Int}(i:Int):(σ i).repl (asgF T σ ids)=σ i:=by
 have hP:=h.props
 rw[repl_app _ _ (hP.idem.plain i)]
 rw[app_congr (η:=tVar) (σ i) fun j hj=>asgF_free h (occ_free hP.idem hj)]
 exact app_id _ (hP.idem.plain i)
end Go.J
/- What the laws on unification say. -/
namespace Go.J
open Enc (enc)
theorem mem_colLeaf(out:List Int)(t:Ty)(j:Int):j∈colLeaf out t↔j∈out∨(t.kind=1∧t.id=j):=by
 unfold colLeaf
 split
 · rename_i h
   rw[List.mem_append,List.mem_singleton]
   constructor
   · rintro (h1|h1)
     · exact .inl h1
     · exact .inr ⟨h.1,h1.symm⟩
   · rintro (h1|h1)
     · exact .inl h1
     · exact .inr h1.2.symm
 · rename_i h
   constructor
   · exact .inl
   · rintro (h1|⟨h1,h2⟩)
     · exact h1
     · exact Classical.byContradiction fun hn=>h ⟨h1,by rw[h2];exact hn⟩
theorem mem_colTs' {l:List Ty} (h:∀ t∈l,∀ (out:List Int) (j:Int),j∈colT t out↔j∈out∨t.occ j=true):∀ (out:List Int) (j:Int),j∈colTs l out↔j∈out∨∃ t∈l,t.occ j=true:=by
 induction l with
 |nil=>intro out j;simp[colTs]
 | cons t l ih =>
   intro out j
   rw[colTs,ih (fun u hu=>h u (List.mem_cons_of_mem _ hu)),h t (List.mem_cons_self ..)]
   constructor
   · rintro ((h1|h1)|⟨u,hu,h1⟩)
     · exact .inl h1
     · exact .inr ⟨t,List.mem_cons_self ..,h1⟩
     · exact .inr ⟨u,List.mem_cons_of_mem _ hu,h1⟩
   · rintro (h1|⟨u,hu,h1⟩)
     · exact .inl (.inl h1)
     · rcases List.mem_cons.1 hu with rfl|hu
       · exact .inl (.inr h1)
       · exact .inr ⟨u,hu,h1⟩
theorem mem_colT(t:Ty):t.vplain=true→∀ (out:List Int) (j:Int),j∈colT t out↔j∈out∨t.occ j=true:=by
 induction t using Ty.ind with
 | h t ih =>
   intro hp out j
   have hv:=vplains_iff.1 (vplain_args hp)
   rw[colT_eq,mem_colTs' (fun u hu=>ih u hu (hv u hu)),mem_colLeaf,occ_eq]
   by_cases hk:t.kind=1
   · have e:=vplain_var hp hk
     have ha:t.args=[]:=by rw[e];rfl
     rw[if_pos hk,ha]
     simp[hk]
   · rw[if_neg hk,List.any_eq_true]
     simp[hk]
theorem mem_vars{l:List Ty}(hl:∀ t∈l,t.vplain=true)(j:Int):j∈varsM l↔∃ t∈l,t.occ j=true:=by
 rw[varsM_col (vplains_leafys l (vplains_iff.2 hl)),mem_colTs' (fun t ht=>mem_colT t (hl t ht))]
 simp
theorem colTs_nodup'{l:List Ty}(h:∀ t∈l,∀ out:List Int,out.Nodup→(colT t out).Nodup):∀ out:List Int,out.Nodup→(colTs l out).Nodup:=by
 induction l with
 |nil=>intro out h;rw[colTs];exact h
 | cons t l ih =>
   intro out ho
   rw[colTs]
   exact ih (fun u hu=>h u (List.mem_cons_of_mem _ hu)) _ (h t (List.mem_cons_self ..) out ho)
theorem vars_nodup{l:List Ty}(hl:∀ t∈l,t.vplain=true):(varsM l).Nodup:=by
 rw[varsM_col (vplains_leafys l (vplains_iff.2 hl))]
 exact colTs_nodup' (fun t _ out ho=>colT_nodup t ho) _ List.nodup_nil
def VS(σ:Sub):Prop:=∀ i,0≤i→i≤1000000→(σ i).valid=true
theorem app_valid {σ:Sub} (h:VS σ) (t:Ty):t.valid=true→(t.app σ).valid=true:=by
 induction t using Ty.ind with
 | h t ih =>
   intro hv
   by_cases hk:t.kind=1
   · rw[app_var hk]
     have:=Ty.valid_var hv hk
     exact h _ this.1 this.2
   · have ha := Ty.valid_args hv
     rw[app_node hk]
     obtain⟨k,n,i,hh,l⟩:=t
     simp only[Ty.kind_mk,Ty.name_mk,Ty.id_mk,Ty.home_mk,Ty.args_mk]at *
     have hm:Ty.valids (l.map (Ty.app σ))=true:=Ty.valids_iff.2 fun u hu=>by
      obtain⟨w,hw,rfl⟩:=List.mem_map.1 hu
      exact ih w hw (ha w hw)
     unfold Ty.valid at hv ⊢
     rw[List.length_map,hm]
     split at hv
     · rename_i h1;rw[if_pos h1];exact hv
     · rename_i h1
       rw[if_neg h1]
       split at hv
       · rename_i h2;rw[if_pos h2];exact hv
       · rename_i h2
         rw[if_neg h2]
         split at hv
         · rename_i h3;rw[if_pos h3];exact hv
         · rename_i h3
           rw[if_neg h3]
           split at hv
           · rename_i h4
             rw[if_pos h4]
             simp only[Bool.and_eq_true]at hv ⊢
             exact⟨⟨hv.1.1,trivial⟩,hv.2⟩
           · cases hv
theorem comp_valid{σ:Sub}(h:VS σ){x:Int}{t:Ty}(ht:t.valid=true):VS (compS σ x t):=fun i h0 h1 =>
 app_valid (σ:=one x t) (fun j j0 j1=>by
  unfold one;split
  · exact ht
  · exact valid_tVarI j0 j1) _ (h i h0 h1)
theorem aL_valid {rec:Sub→Ty→Ty→Option (Int×Sub)} (hrec:∀ σ a b e σ',VS σ→a.valid=true→b.valid=true→rec σ a b=some (e,σ')→VS σ') :
 ∀ (l m:List Ty) (σ:Sub) (e:Int) (σ':Sub),VS σ→(∀ u∈l,u.valid=true)→(∀ u∈m,u.valid=true)→aL rec l m σ=some (e,σ')→VS σ':=by
 intro l
 induction l with
 |nil=>intro m σ e σ' h _ _ hr;cases hr;exact h
 | cons x l ih =>
   intro m σ e σ' h hl hm hr
   cases m with
   |nil=>cases hr;exact h
   | cons y m =>
     rw[aL]at hr
     cases hq:rec σ x y with
     |none=>rw[hq]at hr;cases hr
     | some r =>
       obtain⟨e1,σ1⟩:=r
       rw[hq]at hr
       have h1:=hrec σ x y e1 σ1 h (hl x (List.mem_cons_self ..)) (hm y (List.mem_cons_self ..)) hq
       simp only at hr
       split at hr
       · exact ih m σ1 e σ' h1 (fun u hu=>hl u (List.mem_cons_of_mem _ hu)) (fun u hu=>hm u (List.mem_cons_of_mem _ hu)) hr
       · cases hr;exact h1
theorem uA_valid:∀ (f:Nat) (σ:Sub) (a b:Ty) (e:Int) (σ':Sub),VS σ→a.valid=true→b.valid=true→uA f σ a b=some (e,σ')→VS σ':=by
 intro f
 induction f with
 |zero=>intro σ a b e σ' _ _ _ hr;cases hr
 | succ f ih =>
   intro σ a b e σ' h ha hb hr
   have pa:=app_valid h a ha
   have pb:=app_valid h b hb
   rw[uA,aS]at hr
   generalize a.app σ=x at *
   generalize b.app σ=y at *
   have hbind:∀ {x:Int} {t:Ty},t.valid=true→bindA x t σ=some (e,σ')→VS σ':=fun ht hr=>by
    unfold bindA at hr
    split at hr
    · cases hr;exact h
    · cases hr;exact comp_valid h ht
   split at hr
   · cases hr;exact h
   split at hr
   · exact hbind pb hr
   split at hr
   · exact hbind pa hr
   split at hr
   · exact aL_valid ih _ _ _ _ _ h (Ty.valid_args pa) (Ty.valid_args pb) hr
   · cases hr;exact h
theorem vs_tVar:VS tVar:=fun i h0 h1=>valid_tVarI h0 h1
end Go.J
/- The plain laws of LatticeUnifies and LatticePrincipal. -/
namespace Go.J
open Enc (enc)
theorem asgF_mem{T:List Assign}{σ:Sub}{ids:List Int}{x:Assign}(h:x∈asgF T σ ids):x.id∈ids∧x.type=σ x.id:=by
 unfold asgF at h
 obtain⟨i,hi,rfl⟩:=List.mem_map.1 h
 exact⟨(List.mem_filter.1 hi).1,rfl⟩
theorem asgF_ids{T:List Assign}{σ:Sub}{ids:List Int}(h:ids.Nodup):((asgF T σ ids).map Assign.id).Nodup:=by
 unfold asgF
 rw[List.map_map]
 have:(Assign.id ∘ fun i=>(⟨i,σ i⟩:Assign))=id:=rfl
 rw[this,List.map_id]
 exact List.Sublist.nodup List.filter_sublist h
def fcL(s o:List Assign):List Int→List Assign→List Assign×Bool
 | [],A=>(A,true)
 |i::l,A=>if (mtM ((tVar i).repl s) ((tVar i).repl o) A).2=true then fcL s o l (mtM ((tVar i).repl s) ((tVar i).repl o) A).1 else ((mtM ((tVar i).repl s) ((tVar i).repl o) A).1,false)
theorem repl_tVar(s:List Assign)(i:Int):(tVar i).repl s=fnA s i:=by rw[repl_eq];exact if_pos rfl
theorem fc_ok{s o:List Assign}:∀ (ids:List Int) (A:List Assign),(∀ i∈ids,(fnA s i).vplain=true∧(fnA s i).app (fnA o)=fnA o i)→Agr A (fnA o)→(fcL s o ids A).2=true:=by
 intro ids
 induction ids with
 |nil=>intro A _ _;rfl
 | cons i l ih =>
   intro A h hA
   obtain⟨h1,h2⟩:=h i (List.mem_cons_self ..)
   obtain⟨m1,m2⟩:=mt_cpl (θ:=fnA o) (p:=fnA s i) (s:=A) h1 hA
   rw[h2]at m1 m2
   rw[fcL,repl_tVar,repl_tVar,if_pos m1]
   exact ih _ (fun j hj=>h j (List.mem_cons_of_mem _ hj)) m2
end Go.J
/- Resolving is determined;the assignments of a list of variables;how long the reference's substitution becomes. -/
namespace Go.J
open Enc (enc)
theorem rs_det{T:List Assign}{σ:Sub}(h:Tri T σ){d:Nat}{t r:Ty}(ht:t.vplain=true){D D':List Assign}(hD:DOkT σ D)(hr:rsM T d t D=some (r,D')) :
 r=t.app σ∧DOkT σ D'∧∀ i,lookA D i=none→lookA D' i≠none→RchT T i t:=by
 obtain⟨f,D2,h1,h2,h3⟩:=rs_ok h (h.acc t) ht D hD
 have e1:=rsM_mono (Nat.le_max_left f d) h1
 have e2:=rsM_mono (Nat.le_max_right f d) hr
 rw[e1]at e2
 cases e2
 exact⟨rfl,h2,h3⟩
def asM (T:List Assign) (d:Nat):List Int→List Assign→Option (List Assign)→Option (List Assign×Option (List Assign))
 | [],out,D=>some (out,D)
 | i :: l,out,D=>if (lookA T i).isSome=true then match rsM T d (tVar i) (D.getD [])with
     |some (r,D')=>asM T d l (out++[⟨i,r⟩]) (some D')
     |none=>none
   else asM T d l out D
theorem asM_step {T:List Assign} {d:Nat}:∀ (l:List Int) (out:List Assign) (D:Option (List Assign)) (q:List Assign×Option (List Assign)),asM T d l out D=some q→asM T (d+1) l out D=some q:=by
 intro l
 induction l with
 |nil=>intro out D q h;exact h
 | cons i l ih =>
   intro out D q h
   rw[asM]at h ⊢
   split
   · rename_i hi
     rw[if_pos hi]at h
     cases hr:rsM T d (tVar i) (D.getD [])with
     |none=>rw[hr]at h;cases h
     | some p =>
       rw[hr]at h
       rw[rsM_step _ _ _ _ _ hr]
       exact ih _ _ _ h
   · rename_i hi
     rw[if_neg hi]at h
     exact ih _ _ _ h
theorem asM_mono{T:List Assign}{d e:Nat}(h:d≤e){l:List Int}{out:List Assign}{D:Option (List Assign)}{q:List Assign×Option (List Assign)}(hq:asM T d l out D=some q):asM T e l out D=some q:=by
 induction h with
 |refl=>exact hq
 |step _ ih=>exact asM_step _ _ _ _ ih
theorem as_ok{T:List Assign}{σ:Sub}(h:Tri T σ):∀ (l:List Int) (out:List Assign) (D:Option (List Assign)),DOkT σ (D.getD [])→∃ d D',asM T d l out D=some (out++asgF T σ l,D'):=by
 intro l
 induction l with
 |nil=>intro out D _;exact⟨0,D,by rw[asM];simp[asgF]⟩
 | cons i l ih =>
   intro out D hD
   unfold asgF at ih ⊢
   by_cases hi:(lookA T i).isSome=true
   · obtain⟨d1,D1,h1,h2,h3⟩:=rs_ok h (h.acc (tVar i)) (vplain_tVar i) (D.getD []) hD
     obtain⟨d2,D2,g⟩:=ih (out++[⟨i,(tVar i).app σ⟩]) (some D1) h2
     refine⟨max d1 d2,D2,?_⟩
     rw[asM,if_pos hi,rsM_mono (Nat.le_max_left d1 d2) h1]
     simp only
     rw[asM_mono (Nat.le_max_right d1 d2) g,List.filter_cons,if_pos hi,List.map_cons,app_tVar]
     simp
   · obtain⟨d2,D2,g⟩:=ih out D hD
     refine⟨d2,D2,?_⟩
     rw[asM,if_neg hi,g,List.filter_cons,if_neg hi]
section
variable {V:List Int}
def Len(V:List Int)(s s':List Assign):Prop:=s.length≤s'.length∧s'.length+free V (fnA s')≤s.length+free V (fnA s)
theorem cmpA_len(s:List Assign)(x:Int)(t:Ty):s.length≤(cmpA s x t).length∧(cmpA s x t).length≤s.length+1:=by
 unfold cmpA
 rw[List.length_append,List.length_map]
 split
 · simp
 · simp[oneA]
theorem ras_len{s:List Assign}(hs:pls s)(hi:Idem (fnA s)){x:Int}{t:Ty}(hx:fnA s x=tVar x)(ht:t.vplain=true)(htσ:t.app (fnA s)=t)(hne:tVar x≠t)(hxV:x∈V)(htV:∀ j,t.occ j=true→j∈V){s':List Assign}(hr:rasM x t s=some (0,s')):Len V s s':=by
 unfold rasM at hr
 split at hr
 · cases hr
 · rename_i ho
   cases hr
   have hl:=cmpA_len s x t
   refine⟨hl.1,?_⟩
   have hp:=bind_prog hi hx ht htσ hne hxV htV (by simpa using ho)
   rw[cmpA_fn hs x t]
   rcases hp.less with e|h
   · exfalso
     have h3:=(hi.comp hx ht htσ (by simpa using ho)).2.2
     rw[e,hx]at h3
     exact hne h3
   · omega
theorem rL_len {rec:Ty→Ty→List Assign→Option (Int×List Assign)} (hgood:∀ a b s e s',pls s→Idem (fnA s)→a.vplain=true→b.vplain=true→rec a b s=some (e,s')→e=0→pls s'∧Idem (fnA s'))
 (hprog:∀ a b s s',pls s→Idem (fnA s)→a.vplain=true→b.vplain=true→cl V (fnA s) a→cl V (fnA s) b→rec a b s=some (0,s')→∀ u,cl V (fnA s) u→cl V (fnA s') u)
 (hrec:∀ a b s s',pls s→Idem (fnA s)→a.vplain=true→b.vplain=true→cl V (fnA s) a→cl V (fnA s) b→rec a b s=some (0,s')→Len V s s') :
 ∀ (l m:List Ty) (s s':List Assign),pls s→Idem (fnA s)→(∀ u∈l,u.vplain=true∧cl V (fnA s) u)→(∀ u∈m,u.vplain=true∧cl V (fnA s) u)→rL rec l m s=some (0,s')→Len V s s':=by
 intro l
 induction l with
 |nil=>intro m s s' _ _ _ _ h;cases h;exact⟨Nat.le_refl _,Nat.le_refl _⟩
 | cons x l ih =>
   intro m s s' hs hi hl hm h
   cases m with
   |nil=>cases h;exact⟨Nat.le_refl _,Nat.le_refl _⟩
   | cons y m =>
     rw[rL]at h
     cases hr:rec x y s with
     |none=>rw[hr]at h;cases h
     | some p =>
       obtain⟨e,s1⟩:=p
       rw[hr]at h
       simp only at h
       by_cases he:e=0
       · subst he
         rw[if_pos rfl]at h
         have hx:=hl x (List.mem_cons_self ..)
         have hy:=hm y (List.mem_cons_self ..)
         obtain⟨g1,g2⟩:=hgood x y s 0 s1 hs hi hx.1 hy.1 hr rfl
         have k:=hprog x y s s1 hs hi hx.1 hy.1 hx.2 hy.2 hr
         have q1:=hrec x y s s1 hs hi hx.1 hy.1 hx.2 hy.2 hr
         have q2:=ih m s1 s' g1 g2 (fun u hu=>⟨(hl u (List.mem_cons_of_mem _ hu)).1,k u (hl u (List.mem_cons_of_mem _ hu)).2⟩) (fun u hu=>⟨(hm u (List.mem_cons_of_mem _ hu)).1,k u (hm u (List.mem_cons_of_mem _ hu)).2⟩) h
         unfold Len at q1 q2 ⊢
         omega
       · rw[if_neg he]at h
         cases h
         exact absurd rfl he
theorem ru_uA{f:Nat}{a b:Ty}{s s':List Assign}{e:Int}(hs:pls s)(ha:a.vplain=true)(hb:b.vplain=true)(h:ruM f a b s=some (e,s')):∃ σ',uA f (fnA s) a b=some (e,σ')∧(e=0→fnA s'=σ'∧pls s'):=by
 have:=ru_sim f a b s hs ha hb
 rw[h]at this
 cases hq:uA f (fnA s) a b with
 |none=>rw[hq]at this;exact this.elim
 | some q =>
   obtain⟨e',σ'⟩:=q
   rw[hq]at this
   obtain⟨rfl,h2⟩:=this
   exact⟨σ',rfl,h2⟩
theorem ru_len:∀ (f:Nat) (a b:Ty) (s s':List Assign),pls s→Idem (fnA s)→a.vplain=true→b.vplain=true→cl V (fnA s) a→cl V (fnA s) b→ruM f a b s=some (0,s')→Len V s s':=by
 intro f
 induction f with
 |zero=>intro a b s s' _ _ _ _ _ _ h;cases h
 | succ f ih =>
   intro a b s s' hs hi ha hb ca cb hr
   have pa:=plain_app hi.plain a ha
   have pb:=plain_app hi.plain b hb
   have fa:=hi.app a
   have fb:=hi.app b
   rw[ruM,rS,repl_app s a ha,repl_app s b hb]at hr
   have ca':cl V (fnA s) (a.app (fnA s)):=fun j hj=>ca j (by rw[hi.app]at hj;exact hj)
   have cb':cl V (fnA s) (b.app (fnA s)):=fun j hj=>cb j (by rw[hi.app]at hj;exact hj)
   split at hr
   · cases hr;exact⟨Nat.le_refl _,Nat.le_refl _⟩
   rename_i hne
   generalize a.app (fnA s)=x at *
   generalize b.app (fnA s)=y at *
   have ox:∀ j,x.occ j=true→j∈V:=fun j hj=>ca' j (by rw[fa];exact hj)
   have oy:∀ j,y.occ j=true→j∈V:=fun j hj=>cb' j (by rw[fb];exact hj)
   split at hr
   · rename_i hk
     have ex:=vplain_var pa hk
     rw[ex,app_tVar]at fa
     exact ras_len hs hi fa pb fb (by rw[← ex];exact hne) (ox _ (by rw[ex,occ_tVar];simp[tVar])) oy hr
   split at hr
   · rename_i hk
     have ey:=vplain_var pb hk
     rw[ey,app_tVar]at fb
     exact ras_len hs hi fb pa fa (by rw[← ey];exact fun e=>hne e.symm) (oy _ (by rw[ey,occ_tVar];simp[tVar])) ox hr
   split at hr
   · rename_i hk1 hk2 hsm
     refine rL_len (V:=V) (fun a b s e s' hs hi ha hb h he=>?_) (fun a b s s' hs hi ha hb ca cb h u hu=>?_) ih x.args y.args s s' hs hi (fun u hu=>⟨vplains_iff.1 (vplain_args pa) u hu,cl_arg hk1 ca' u hu⟩) (fun u hu=>⟨vplains_iff.1 (vplain_args pb) u hu,cl_arg hk2 cb' u hu⟩) hr
     · subst he
       obtain⟨σ',q1,q2⟩:=ru_uA hs ha hb h
       obtain⟨rfl,q3⟩:=q2 rfl
       exact⟨q3,((uA_good f _ a b 0 _ hi ha hb q1).ok rfl).1⟩
     · obtain⟨σ',q1,q2⟩:=ru_uA hs ha hb h
       obtain⟨rfl,q3⟩:=q2 rfl
       exact(uA_prog f _ a b 0 _ hi ha hb ca cb q1).keep u hu
   · cases hr
end
end Go.J
/- Leaves without repetition;how big resolved types are;which variables are bound. -/
namespace Go.J
open Enc (enc)
theorem nodup_le{α:Type} [DecidableEq α]:∀ {l m:List α},l.Nodup→(∀ x∈l,x∈m)→l.length≤m.length:=by
 intro l
 induction l with
 |nil=>intro m _ _;exact Nat.zero_le _
 | cons a l ih =>
   intro m h hm
   rw[List.nodup_cons]at h
   have ha:=hm a (List.mem_cons_self ..)
   have:=ih (m:=m.erase a) h.2 fun x hx=>by
    have hne:x≠a:=fun e=>h.1 (e ▸ hx)
    exact(List.mem_erase_of_ne hne).2 (hm x (List.mem_cons_of_mem _ hx))
   rw[List.length_erase_of_mem ha]at this
   have hp:0<m.length:=List.length_pos_of_mem ha
   simp only[List.length_cons]
   omega
def LfOk(V:List Int)(out:List Ty):Prop:=out.Nodup∧∀ u∈out,∃ j∈V,u=tVar j
theorem lvL_ok{V:List Int}{l:List Ty}(h:∀ t∈l,∀ out,LfOk V out→LfOk V (leavesM 1 t out)):∀ out,LfOk V out→LfOk V (leavesL 1 l out):=by
 induction l with
 |nil=>intro out ho;rw[leavesL];exact ho
 | cons a l ih =>
   intro out ho
   rw[leavesL]
   exact ih (fun t ht=>h t (List.mem_cons_of_mem _ ht)) _ (h a (List.mem_cons_self ..) out ho)
theorem lvM_ok {V:List Int} (t:Ty):t.vplain=true→(∀ j,t.occ j=true→j∈V)→∀ out,LfOk V out→LfOk V (leavesM 1 t out):=by
 induction t using Ty.ind with
 | h t ih =>
   intro hp hV out ho
   rw[leavesM_eq]
   split
   · rename_i hk
     have e:=vplain_var hp hk.1
     split
     · exact ho
     · rename_i hn
       refine⟨?_,fun u hu=>?_⟩
       · rw[List.nodup_append]
         refine⟨ho.1,List.nodup_cons.2 ⟨by simp,List.nodup_nil⟩,fun a ha b hb=>?_⟩
         rw[List.mem_singleton.1 hb]
         exact fun e=>hn (e ▸ ha)
       · rcases List.mem_append.1 hu with hu|hu
         · exact ho.2 u hu
         · rw[List.mem_singleton.1 hu]
           exact⟨t.id,hV _ (by rw[occ_eq,if_pos hk.1];simp),e⟩
   · rename_i hk
     by_cases h1:t.kind=1
     · have e:=vplain_var hp h1
       exact absurd ⟨h1,by rw[e];rfl⟩ hk
     · exact lvL_ok (fun u hu=>ih u hu (vplains_iff.1 (vplain_args hp) u hu) fun j hj=>hV j (by rw[occ_node h1];exact List.any_eq_true.2 ⟨u,hu,hj⟩)) out ho
theorem leaves_short{V:List Int}{l:List Ty}(hl:∀ t∈l,t.vplain=true)(hV:∀ t∈l,∀ j,t.occ j=true→j∈V):(leavesL 1 l []).length≤V.length:=by
 have h:=lvL_ok (V:=V) (l:=l) (fun t ht=>lvM_ok t (hl t ht) (hV t ht)) [] ⟨List.nodup_nil,fun u hu=>by cases hu⟩
 have:=nodup_le (m:=V.map tVar) h.1 fun u hu=>by
  obtain⟨j,hj,rfl⟩:=h.2 u hu
  exact List.mem_map.2 ⟨j,hj,rfl⟩
 rwa [List.length_map]at this
section
variable {T:List Assign}{σ:Sub}{V:List Int}{M:Nat}
end
section
variable {P:Ty→Prop}(hP:∀ t,P t→∀ u∈t.args,P u)
end
def Vd(n:Int)(t:Ty):Prop:=t.valid=true∧∀ j,t.occ j=true→0≤j∧j<n
theorem vd_vars{n:Nat}{l:List Ty}(hl:∀ t∈l,t.vplain=true)(h:∀ t∈l,Vd n t):(varsM l).length≤n:=by
 have:=nodup_le (m:=(List.range n).map fun i:Nat=>(i:Int)) (vars_nodup hl) fun j hj=>by
  obtain⟨t,ht,ho⟩:=(mem_vars hl j).1 hj
  obtain⟨h1,h2⟩:=(h t ht).2 j ho
  exact List.mem_map.2 ⟨j.toNat,List.mem_range.2 (by omega),by omega⟩
 simpa using this
end Go.J
/- Composing substitutions as the reference does;the reference's unification keeps types well-formed. -/
namespace Go.J
open Enc (enc)
theorem repl_ok {s:List Assign} (hs:∀ a∈s,a.type.ok=true) (t:Ty):t.ok=true→(t.repl s).ok=true:=by
 induction t using Ty.ind with
 | h t ih =>
   intro ho
   rw[repl_eq]
   by_cases hk:t.kind=1
   · rw[if_pos hk]
     cases hl:lookA s t.id with
     |none=>exact ho
     | some u =>
       obtain⟨a,ha,rfl⟩:=lookA_mem hl
       exact hs a ha
   · rw[if_neg hk]
     refine Ty.ok_iff.2 ⟨by simpa using Ty.ok_len ho,fun x hx=>?_⟩
     obtain⟨u,hu,rfl⟩:=List.mem_map.1 (show x∈t.args.map (Ty.repl s) from hx)
     exact ih u hu (Ty.ok_arg ho hu)
def cpM(a b:List Assign):List Assign:=(a.map fun x=>⟨x.id,x.type.repl b⟩)++b.filter fun x=>!hasA a x.id
theorem cpM_one(s:List Assign)(x:Int)(t:Ty):cpM s [⟨x,t⟩]=cmpA s x t:=by
 unfold cpM cmpA oneA
 rw[List.filter_cons]
 by_cases h:hasA s x=true<;>simp[h]
theorem cpM_ok{a b:List Assign}(ha:∀ x∈a,x.type.ok=true)(hb:∀ x∈b,x.type.ok=true):∀ x∈cpM a b,x.type.ok=true:=by
 intro x hx
 unfold cpM at hx
 rcases List.mem_append.1 hx with hx|hx
 · obtain⟨y,hy,rfl⟩:=List.mem_map.1 hx
   exact repl_ok hb _ (ha y hy)
 · exact hb x (List.mem_filter.1 hx).1
def okA(s:List Assign):Prop:=∀ a∈s,a.type.ok=true
theorem rasM_ok{s:List Assign}(hs:okA s){x:Int}{t:Ty}(ht:t.ok=true){e:Int}{s':List Assign}(h:rasM x t s=some (e,s')):okA s':=by
 unfold rasM at h
 split at h
 · cases h;exact fun a ha=>by cases ha
 · cases h
   rw[← cpM_one]
   exact cpM_ok hs fun y hy=>by rw[List.mem_singleton.1 hy];exact ht
theorem rL_ok {rec:Ty→Ty→List Assign→Option (Int×List Assign)} (hrec:∀ a b s e s',okA s→a.ok=true→b.ok=true→rec a b s=some (e,s')→okA s') :
 ∀ (l m:List Ty) (s:List Assign) (e:Int) (s':List Assign),okA s→(∀ u∈l,u.ok=true)→(∀ u∈m,u.ok=true)→rL rec l m s=some (e,s')→okA s':=by
 intro l
 induction l with
 |nil=>intro m s e s' hs _ _ h;cases h;exact hs
 | cons x l ih =>
   intro m s e s' hs hl hm h
   cases m with
   |nil=>cases h;exact hs
   | cons y m =>
     rw[rL]at h
     cases hr:rec x y s with
     |none=>rw[hr]at h;cases h
     | some p =>
       obtain⟨e1,s1⟩:=p
       rw[hr]at h
       simp only at h
       by_cases he:e1=0
       · rw[if_pos he]at h
         exact ih m s1 e s' (hrec x y s e1 s1 hs (hl x (List.mem_cons_self ..)) (hm y (List.mem_cons_self ..)) hr) (fun u hu=>hl u (List.mem_cons_of_mem _ hu)) (fun u hu=>hm u (List.mem_cons_of_mem _ hu)) h
       · rw[if_neg he]at h
         cases h
         exact fun a ha=>by cases ha
theorem ru_ok:∀ (f:Nat) (a b:Ty) (s:List Assign) (e:Int) (s':List Assign),okA s→a.ok=true→b.ok=true→ruM f a b s=some (e,s')→okA s':=by
 intro f
 induction f with
 |zero=>intro a b s e s' _ _ _ h;cases h
 | succ f ih =>
   intro a b s e s' hs ha hb h
   rw[ruM,rS]at h
   have oa:=repl_ok hs a ha
   have ob:=repl_ok hs b hb
   split at h
   · cases h;exact hs
   split at h
   · exact rasM_ok hs ob h
   split at h
   · exact rasM_ok hs oa h
   split at h
   · exact rL_ok ih _ _ _ _ _ hs (Ty.ok_iff.1 oa).2 (Ty.ok_iff.1 ob).2 h
   · cases h;exact fun a ha=>by cases ha
structure RuC(V:List Int)(s:List Assign):Prop where
 ok:okA s
 pl:pls s
 id:Idem (fnA s)
 sh:V.length≤8000
 len:s.length+free V (fnA s)≤8000
theorem RuC.nil{V:List Int}(h:V.length≤8000):RuC V []:=by
 have h2:free V (fnA [])≤V.length:=List.countP_le_length
 refine⟨fun a h=>(by cases h),fun a h=>(by cases h),?_,h,?_⟩
 · rw[fnA_nil];exact idem_tVar
 · simp only[List.length_nil];omega
theorem RuC.room{V:List Int}{s:List Assign}(h:RuC V s){x:Int}(hx:x∈V)(hf:fnA s x=tVar x):s.length+1≤8000:=by
 have h1:=h.len
 have:0<free V (fnA s):=List.countP_pos_iff.2 ⟨x,hx,decide_eq_true hf⟩
 omega
theorem RuC.next{V:List Int}{f:Nat}{a b:Ty}{s s':List Assign}(h:RuC V s)(oa:a.ok=true)(ob:b.ok=true)(ha:a.vplain=true)(hb:b.vplain=true)(ca:cl V (fnA s) a)(cb:cl V (fnA s) b)(hr:ruM f a b s=some (0,s')) :
 RuC V s'∧∀ u,cl V (fnA s) u→cl V (fnA s') u:=by
 obtain⟨σ',q1,q2⟩:=ru_uA h.pl ha hb hr
 obtain⟨rfl,q3⟩:=q2 rfl
 have hl:=ru_len f a b s s' h.pl h.id ha hb ca cb hr
 exact⟨⟨ru_ok f a b s 0 s' h.ok oa ob hr,q3,((uA_good f _ a b 0 _ h.id ha hb q1).ok rfl).1,h.sh,by have:=h.len;have:=hl.2;omega⟩,fun u hu=>(uA_prog f _ a b 0 _ h.id ha hb ca cb q1).keep u hu⟩
theorem occ_vars{t:Ty}(ht:t.vplain=true)(x:Int):(x∈varsM [t])↔t.occ x=true:=by
 rw[mem_vars (fun u hu=>by rw[List.mem_singleton.1 hu];exact ht)]
 exact⟨fun ⟨u,hu,h⟩=>by rw[List.mem_singleton.1 hu]at h;exact h,fun h=>⟨t,List.mem_singleton_self _,h⟩⟩
def Nd(s:List Assign):Prop:=(s.map Assign.id).Nodup
end Go.J
/- The types of chapter 15's laws: valid,with at most four variables;what their unifiers look like. -/
namespace Go.J
open Enc (enc)
theorem valid_ok (t:Ty):t.valid=true→t.ok=true:=by
 induction t using Ty.ind with
 | h t ih =>
   intro hv
   have ha:=Ty.valid_args hv
   refine Ty.ok_iff.2 ⟨?_,fun u hu=>ih u hu (ha u hu)⟩
   obtain⟨k,n,i,h,l⟩:=t
   unfold Ty.valid at hv
   simp only[Ty.args_mk]
   split at hv
   · simp at hv;first|omega|(rw[hv.2];decide)|(rw[hv.1.2];decide)|(rw[hv.2.2];decide)
   · split at hv
     · simp at hv;first|omega|(rw[hv.2];decide)|(rw[hv.1.2];decide)|(rw[hv.2.2];decide)
     · split at hv
       · simp at hv;first|omega|(rw[hv.2];decide)|(rw[hv.1.2];decide)|(rw[hv.2.2];decide)
       · split at hv
         · split at hv
           · simp at hv;first|omega|(rw[hv.2];decide)|(rw[hv.1.2];decide)|(rw[hv.2.2];decide)
           · split at hv
             · simp at hv;first|omega|(rw[hv.2];decide)|(rw[hv.1.2];decide)|(rw[hv.2.2];decide)
             · simp at hv;first|omega|(rw[hv.2];decide)|(rw[hv.1.2];decide)|(rw[hv.2.2];decide)
         · cases hv
theorem occ_args{t:Ty}(hk:t.kind≠1){j:Int}(h:t.occ j=true):∃ u∈t.args,u.occ j=true:=by
 rw[occ_node hk]at h
 exact List.any_eq_true.1 h
theorem vd_type{D:List Decl}(hD:DVal D){Lv:List Ty}{n:Int}(hl:∀ l∈Lv,Vd n l)(d:Nat)(t:Tp):Vd n (typeM d t D Lv).2 :=
 ⟨typeM_valid hD (fun l h=>(hl l h).1) d t,typeM_ind (P:=fun t=>∀ j,t.occ j=true→0≤j∧j<n) (fun l h=>(hl l h).2) (fun j h=>by
     obtain⟨u,hu,_⟩:=occ_args (t:=tInt) (by decide) h
     cases hu) (fun dd _ l _ hx j h=>by
     obtain⟨u,hu,h⟩:=occ_args (t:=tCon dd.name l) (by show (4:Int)≠1;decide) h
     exact hx u hu j h) (fun a b ha hb j h=>by
     obtain⟨u,hu,h3⟩:=occ_args (t:=tArrow a b) (by show (4:Int)≠1;decide) h
     have hu:u∈([a,b]:List Ty):=hu
     simp only[List.mem_cons,List.not_mem_nil,or_false]at hu
     rcases hu with rfl|rfl
     · exact ha j h3
     · exact hb j h3) d t⟩
theorem vd_tVar{i n:Int}(h0:0≤i)(h1:i<n)(hn:n≤1000000):Vd n (tVar i):=⟨valid_tVarI h0 (by omega),fun j hj=>by
 rw[occ_tVar]at hj
 have:=of_decide_eq_true hj
 omega⟩
theorem vd_varTs{k:Nat}{n:Int}(h:(k:Int)≤n)(hn:n≤1000000):∀ u∈varTs k,Vd n u:=fun u hu=>by
 obtain⟨i,hi,rfl⟩:=Store.varTs_mem hu
 exact vd_tVar (by omega) (by omega) hn
theorem vd_rigid{n a b:Int}(h:(tRigid a b).valid=true):Vd n (tRigid a b):=⟨h,fun j hj=>by
 obtain⟨u,hu,_⟩:=occ_args (t:=tRigid a b) (by show (3:Int)≠1;decide) hj
 cases hu⟩
end Go.J
/- Sizes and well-formed types in most general unifiers: what LatticePrincipal asks. -/
namespace Go.J
open Enc (enc)
theorem tVar_okJ(i:Int):(tVar i).ok=true:=by simp[tVar,Ty.ok,Ty.oks]
end Go.J
/- Solving equations one after the other: the reference's composition and the set's unification go the same steps. -/
namespace Go.J
open Enc (enc)
def S2(σ τ:Sub):Sub:=fun i=>(σ i).app τ
section
variable {σ:Sub}
end
open Classical in
def uR(σ:Sub)(a b:Ty):Int×Sub:=if h:∃ p,∃ f,uA f σ a b=some p then h.choose else (0,σ)
theorem uR_eq{σ:Sub}{a b:Ty}{f:Nat}{p:Int×Sub}(h:uA f σ a b=some p):uR σ a b=p:=by
 have hex:∃ p,∃ f,uA f σ a b=some p:=⟨p,f,h⟩
 unfold uR
 rw[dif_pos hex]
 obtain⟨g,hg⟩:=hex.choose_spec
 have e1:=uA_mono (Nat.le_max_left f g) h
 have e2:=uA_mono (Nat.le_max_right f g) hg
 rw[e1]at e2
 exact(Option.some.inj e2).symm
open Classical in
def slA (V:List Int):List Equation→Nat→Sub→Int×Nat×Sub
 | [],i,σ=>(0,i,σ)
 | q::l,i,σ=>if 200<(q.left.app σ).size∨200<(q.right.app σ).size then (15,i,σ)
   else if (uR σ q.left q.right).1≠0 then ((uR σ q.left q.right).1,i,σ)
   else if ∃ v∈V,200<((uR σ q.left q.right).2 v).size then (15,i,σ)
   else slA V l (i+1) (uR σ q.left q.right).2
structure SInv(V:List Int)(σ:Sub):Prop where
 idem:Idem σ
 val:VS σ
 cl:∀ v∈V,∀ j,(σ v).occ j=true→j∈V
theorem SInv.clT{V:List Int}{σ:Sub}(h:SInv V σ){t:Ty}(ht:∀ j,t.occ j=true→j∈V):Go.J.cl V σ t:=fun j hj=>by
 obtain⟨i,hi,hj⟩:=occ_app t hj
 exact h.cl i (ht i hi) j hj
theorem sinv0(V:List Int):SInv V tVar:=⟨idem_tVar,vs_tVar,fun v hv j hj=>by
 rw[occ_tVar]at hj
 rw[← of_decide_eq_true hj];exact hv⟩
def EqOk(V:List Int)(t:Ty):Prop:=t.vplain=true∧t.valid=true∧∀ j,t.occ j=true→j∈V
theorem sl_step{V:List Int}{σ:Sub}(h:SInv V σ){a b:Ty}(ha:EqOk V a)(hb:EqOk V b):∃ f e σ',uA f σ a b=some (e,σ')∧uR σ a b=(e,σ')∧(e=0→SInv V σ'∧After σ σ'∧a.app σ'=b.app σ')∧(∀ θ:Sub,After σ θ→a.app θ=b.app θ→e=0∧After σ' θ):=by
 obtain⟨f,⟨e,σ'⟩,hf⟩:=uA_ends (V:=V) _ _ σ a b h.idem ha.1 hb.1 (h.clT ha.2.2) (h.clT hb.2.2) (Nat.le_refl _) (Nat.le_refl _)
 have g:=uA_good f σ a b e σ' h.idem ha.1 hb.1 hf
 have p:=uA_prog f σ a b e σ' h.idem ha.1 hb.1 (h.clT ha.2.2) (h.clT hb.2.2) hf
 refine⟨f,e,σ',hf,uR_eq hf,fun h0=>?_,g.mgu⟩
 obtain⟨g1,g2,g3⟩:=g.ok h0
 refine⟨⟨g1,uA_valid f σ a b e σ' h.val ha.2.1 hb.2.1 hf,fun v hv j hj=>?_⟩,g2,g3⟩
 have:=p.keep (tVar v) (fun k hk=>by rw[app_tVar]at hk;exact h.cl v hv k hk) j (by rw[app_tVar];exact hj)
 exact this
theorem sl_ok{V:List Int}:∀ (l:List Equation) (i:Nat) (σ:Sub) (e:Int) (k:Nat) (σ':Sub),SInv V σ→(∀ q∈l,EqOk V q.left∧EqOk V q.right)→slA V l i σ=(e,k,σ') →
 (e=0→SInv V σ'∧After σ σ'∧(∀ q∈l,q.left.app σ'=q.right.app σ')∧k=i+l.length)∧(∀ θ:Sub,After σ θ→(∀ q∈l,q.left.app θ=q.right.app θ)→(e=0∧After σ' θ)∨e=15):=by
 intro l
 induction l with
 |nil=>intro i σ e k σ' h _ hr;cases hr;exact⟨fun _=>⟨h,fun i=>h.idem.idem i,fun q hq=>(by cases hq),rfl⟩,fun θ hθ _=>.inl ⟨rfl,hθ⟩⟩
 | cons q l ih =>
   intro i σ e k σ' h hl hr
   rw[slA]at hr
   split at hr
   · cases hr;exact⟨fun h=>(by cases h),fun _ _ _=>.inr rfl⟩
   obtain⟨f,e1,σ1,g1,g2,g3,g4⟩:=sl_step h (hl q (List.mem_cons_self ..)).1 (hl q (List.mem_cons_self ..)).2
   rw[g2]at hr
   split at hr
   · rename_i he
     cases hr
     exact⟨fun h=>absurd h he,fun θ h1 h2=>absurd (g4 θ h1 (h2 q (List.mem_cons_self ..))).1 he⟩
   rename_i he
   have he:e1=0:=Classical.byContradiction he
   split at hr
   · cases hr;exact⟨fun h=>(by cases h),fun _ _ _=>.inr rfl⟩
   obtain⟨k1,k2,k3⟩:=g3 he
   obtain⟨m1,m2⟩:=ih (i+1) σ1 e k σ' k1 (fun q hq=>hl q (List.mem_cons_of_mem _ hq)) hr
   refine⟨fun h0=>?_,fun θ h1 h2=>m2 θ (g4 θ h1 (h2 q (List.mem_cons_self ..))).2 fun q hq=>h2 q (List.mem_cons_of_mem _ hq)⟩
   obtain⟨n1,n2,n3,n4⟩:=m1 h0
   refine⟨n1,k2.trans n2,fun r hr=>?_,by rw[n4,List.length_cons];omega⟩
   rcases List.mem_cons.1 hr with rfl|hr
   · rw[← n2.app,k3,n2.app]
   · exact n3 r hr
theorem sl_size{V:List Int}:∀ (l:List Equation) (i:Nat) (σ:Sub) (k:Nat) (σ':Sub),(∀ v∈V,(σ v).size≤200)→slA V l i σ=(0,k,σ')→∀ v∈V,(σ' v).size≤200:=by
 intro l
 induction l with
 |nil=>intro i σ k σ' h hr;cases hr;exact h
 | cons q l ih =>
   intro i σ k σ' h hr
   rw[slA]at hr
   split at hr
   · cases hr
   split at hr
   · rename_i he
     exact absurd (congrArg Prod.fst hr) he
   split at hr
   · cases hr
   rename_i hn
   exact ih (i+1) _ k σ' (fun v hv=>Classical.byContradiction fun hh=>hn ⟨v,hv,by omega⟩) hr
end Go.J
/- Sizes of what a triangular form makes of types. -/
namespace Go.J
open Enc (enc)
def wkF(T:List Assign)(t:Ty):Ty:=(wk T t).getD t
theorem wkF_walk{T:List Assign}{σ:Sub}(h:Tri T σ){t:Ty}(hp:t.vplain=true):wk T t=some (wkF T t)∧(wkF T t).vplain=true∧(wkF T t).app σ=t.app σ∧((wkF T t).kind=1→lookA T (wkF T t).id=none):=by
 obtain⟨r,n,h1,h2,h3,h4⟩:=h.walk t hp
 have e:=wk_eq h1
 have e2:wkF T t=r:=by unfold wkF;rw[e];rfl
 rw[e2]
 exact⟨e,h2,h3,h4⟩
theorem rz_tri {T:List Assign} {σ:Sub} (h:Tri T σ):∀ (N:Nat) (t:Ty),t.vplain=true→(t.app σ).size≤N→Rz (wkF T) t (t.app σ):=by
 intro N
 induction N with
 |zero=>intro t _ hN;have:=Ty.size_pos (t.app σ);omega
 | succ N ih =>
   intro t hp hN
   obtain⟨_,w2,w3,w4⟩:=wkF_walk h hp
   rw[Rz_iff]
   generalize wkF T t=r at *
   by_cases hk:r.kind=1
   · have er:=vplain_var w2 hk
     have ea:r.args=[]:=by rw[er];rfl
     refine⟨[],by rw[ea];exact .nil,?_⟩
     rw[← w3,app_var hk,h.props.free _ (w4 hk),er]
     rfl
   · rw [← w3,app_node hk]
     refine⟨r.args.map (Ty.app σ),?_,rfl⟩
     rw[← w3,app_node hk,Ty.size_eq]at hN
     have hN:Ty.sizes (r.args.map (Ty.app σ))+1≤N+1:=hN
     have hpl:=vplains_iff.1 (vplain_args w2)
     have key:∀ l:List Ty,(∀ u∈l,u.vplain=true)→Ty.sizes (l.map (Ty.app σ))≤N→Rzs (wkF T) l (l.map (Ty.app σ)):=by
      intro l
      induction l with
      |nil=>intro _ _;exact .nil
      | cons u l ihl =>
        intro hu hs
        simp only[List.map_cons,Ty.sizes]at hs
        exact .cons (ih u (hu u (List.mem_cons_self ..)) (by omega)) (ihl (fun w hw=>hu w (List.mem_cons_of_mem _ hw)) (by omega))
     exact key r.args hpl (by omega)
theorem sz_tri{T:List Assign}{σ:Sub}(h:Tri T σ){t:Ty}(hp:t.vplain=true)(m:Nat):sz (wkF T) t m=min (t.app σ).size (m+1) :=
 (szM_ok (w:=wkF T) (m+1) t m (by omega)).1 _ (rz_tri h _ t hp (Nat.le_refl _))
end Go.J
/- Solving with a set of types. -/
namespace Go.J
open Enc (enc)
def lgB(T:List Assign)(t:Ty):Bool:=decide (200<sz (wkF T) t 200)
theorem lgB_iff{T:List Assign}{σ:Sub}(h:Tri T σ){t:Ty}(hp:t.vplain=true):lgB T t=true↔200<(t.app σ).size:=by
 unfold lgB
 rw[sz_tri h hp,decide_eq_true_iff]
 omega
theorem lgB_var{T:List Assign}{σ:Sub}(h:Tri T σ)(v:Int):lgB T (tVar v)=true↔200<(σ v).size:=by
 rw[lgB_iff h (vplain_tVar v),app_tVar]
def trM (g:Nat) (V:List Int):List Equation→Nat→List Assign→Option (Int×Nat×List Assign)
 | [],i,T=>some (0,i,T)
 | q :: l,i,T=>if lgB T q.left=true∨lgB T q.right=true then some (15,i,T)
   else match tuM g T q.left q.right with
    |none=>none
    |some (e,T')=>if e≠0 then some (e,i,T')else if (V.any fun v=>lgB T' (tVar v))=true then some (15,i,T')else trM g V l (i+1) T'
theorem trM_step{g:Nat}{V:List Int}:∀ (l:List Equation) (i:Nat) (T:List Assign) (p:Int×Nat×List Assign),trM g V l i T=some p→trM (g+1) V l i T=some p:=by
 intro l
 induction l with
 |nil=>intro i T p h;exact h
 | cons q l ih =>
   intro i T p h
   rw[trM]at h ⊢
   split
   · rename_i h1;rw[if_pos h1]at h;exact h
   rename_i h1
   rw[if_neg h1]at h
   cases hr:tuM g T q.left q.right with
   |none=>rw[hr]at h;cases h
   | some r =>
     obtain⟨e,T'⟩:=r
     rw[hr]at h
     rw[tuM_step _ _ _ _ _ hr]
     simp only at h ⊢
     split
     · rename_i h2;rw[if_pos h2]at h;exact h
     rename_i h2
     rw[if_neg h2]at h
     split
     · rename_i h3;rw[if_pos h3]at h;exact h
     rename_i h3
     rw[if_neg h3]at h
     exact ih _ _ _ h
theorem trM_mono{g g':Nat}(hg:g≤g'){V:List Int}{l:List Equation}{i:Nat}{T:List Assign}{p:Int×Nat×List Assign}(h:trM g V l i T=some p):trM g' V l i T=some p:=by
 induction hg with
 |refl=>exact h
 |step _ ih=>exact trM_step _ _ _ _ ih
theorem tr_step{V:List Int}{T:List Assign}{σ:Sub}(hT:Tri T σ)(h:SInv V σ){a b:Ty}(ha:EqOk V a)(hb:EqOk V b):∃ g e T' σ',tuM g T a b=some (e,T')∧uR σ a b=(e,σ')∧(e=0→Tri T' σ'∧SInv V σ'):=by
 obtain⟨f,e,σ',q1,q2,q3,q4⟩:=sl_step h ha hb
 obtain⟨g,T',r1,r2⟩:=tu_sim f T σ a b e σ' hT ha.1 hb.1 q1
 exact⟨g,e,T',σ',r1,q2,fun h0=>⟨r2 h0,(q3 h0).1⟩⟩
theorem tu_det{g g':Nat}{T:List Assign}{a b:Ty}{p p':Int×List Assign}(h:tuM g T a b=some p)(h':tuM g' T a b=some p'):p=p':=by
 have e1:=tuM_mono (Nat.le_max_left g g') h
 have e2:=tuM_mono (Nat.le_max_right g g') h'
 rw[e1]at e2
 exact Option.some.inj e2
theorem tr_sl {V:List Int}:∀ (l:List Equation) (i:Nat) (T:List Assign) (σ:Sub),Tri T σ→SInv V σ→(∀ q∈l,EqOk V q.left∧EqOk V q.right) →
 ∃ g e k T' σ',trM g V l i T=some (e,k,T')∧slA V l i σ=(e,k,σ')∧(e=0→Tri T' σ'):=by
 intro l
 induction l with
 |nil=>intro i T σ hT _ _;exact⟨0,0,i,T,σ,rfl,rfl,fun _=>hT⟩
 | cons q l ih =>
   intro i T σ hT h hl
   obtain⟨ha,hb⟩:=hl q (List.mem_cons_self ..)
   have e1:=lgB_iff hT ha.1
   have e2:=lgB_iff hT hb.1
   by_cases h1:lgB T q.left=true∨lgB T q.right=true
   · refine⟨0,15,i,T,σ,by rw[trM,if_pos h1],by rw[slA,if_pos (h1.imp e1.1 e2.1)],fun h=>by cases h⟩
   have h1':¬ (200<(q.left.app σ).size∨200<(q.right.app σ).size):=fun hh=>h1 (hh.imp e1.2 e2.2)
   obtain⟨g,e,T',σ',q1,q2,q3⟩:=tr_step hT h ha hb
   by_cases he:e=0
   · obtain⟨r1,r2⟩:=q3 he
     by_cases h3:(V.any fun v=>lgB T' (tVar v))=true
     · refine⟨g,15,i,T',σ,?_,?_,fun h=>by cases h⟩
       · rw[trM,if_neg h1,q1]
         simp only[he,ne_eq,not_true_eq_false,if_false,h3,if_true]
       · rw[slA,if_neg h1',q2]
         obtain⟨v,hv,h4⟩:=List.any_eq_true.1 h3
         simp only[he,ne_eq,not_true_eq_false,if_false]
         rw[if_pos ⟨v,hv,(lgB_var r1 v).1 h4⟩]
     · obtain⟨g2,e2,k,T2,σ2,m1,m2,m3⟩:=ih (i+1) T' σ' r1 r2 fun q hq=>hl q (List.mem_cons_of_mem _ hq)
       refine⟨max g g2,e2,k,T2,σ2,?_,?_,m3⟩
       · rw[trM,if_neg h1,tuM_mono (Nat.le_max_left g g2) q1]
         simp only[he,ne_eq,not_true_eq_false,if_false]
         rw[if_neg h3]
         exact trM_mono (Nat.le_max_right g g2) m1
       · rw[slA,if_neg h1',q2]
         simp only[he,ne_eq,not_true_eq_false,if_false]
         rw[if_neg fun ⟨v,hv,h4⟩=>h3 (List.any_eq_true.2 ⟨v,hv,(lgB_var r1 v).2 h4⟩)]
         exact m2
   · refine⟨g,e,i,T',σ,?_,?_,fun h=>absurd h he⟩
     · rw[trM,if_neg h1,q1]
       simp only[ne_eq,he,not_false_eq_true,if_true]
     · rw[slA,if_neg h1',q2]
       simp only[ne_eq,he,not_false_eq_true,if_true]
end Go.J
/- Solving as the reference does. -/
namespace Go.J
open Enc (enc)
structure RInv(W:List Int)(s:List Assign)(i:Nat):Prop where
 pl:pls s
 ok:okA s
 si:SInv W (fnA s)
 len:s.length≤i*7
end Go.J
namespace Go.J
open Enc (enc)
theorem trM_k {g:Nat} {W:List Int}:∀ (l:List Equation) (i:Nat) (T:List Assign) (k:Nat) (T':List Assign),trM g W l i T=some (0,k,T')→k=i+l.length:=by
 intro l
 induction l with
 |nil=>intro i T k T' h;cases h;rfl
 | cons q l ih =>
   intro i T k T' h
   rw[trM]at h
   split at h
   · cases h
   cases hr:tuM g T q.left q.right with
   |none=>rw[hr]at h;cases h
   | some r =>
     obtain⟨e,T1⟩:=r
     rw[hr]at h
     simp only at h
     split at h
     · rename_i he
       cases h;exact absurd rfl he
     split at h
     · cases h
     · rw[ih _ _ _ _ h,List.length_cons];omega
end Go.J
