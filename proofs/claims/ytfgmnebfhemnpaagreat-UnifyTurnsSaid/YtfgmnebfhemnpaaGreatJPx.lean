import Derived.Test.YtfgmnebfhemnpaaGreatJNx
import Derived.Test.YtfgmnebfhemnpaaGreatJW
set_option linter.all false
noncomputable section
/- The program's unification in a store: the search for rigid constants of later homes. -/
namespace Go.J
open Enc (enc)
namespace Store
def hiL (rec:Ty->List Int->Option (Bool×List Int)):List Ty->List Int->Option (Bool×List Int)
 | [],sn=>some (false,sn)
 | t::l,sn=>match rec t sn with
   |none=>none
   |some (true,sn')=>some (true,sn')
   |some (false,sn')=>hiL rec l sn'
def hiM (s:Store) (h:Int):Nat->Ty->List Int->Option (Bool×List Int)
 | 0,_,_=>none
 | f + 1,t,sn=>if t.kind=1 then (if t.id∈sn then some (false,sn)else match s.slot? t.id with
     |none=>some (decide (h<0),sn++[t.id])
     |some x=>if x.bound=true then hiM s h f x.type (sn++[t.id])else some (false,sn++[t.id]))
   else if t.kind=3 then some (decide (h<t.home),sn)
   else hiL (hiM s h f) t.args sn
theorem zop{p q:Ty->List Int->Option (Bool×List Int)}(h:∀ t sn r,p t sn=some r->q t sn=some r):∀ (l:List Ty) (sn:List Int) (r:Bool×List Int),hiL p l sn=some r->hiL q l sn=some r:=by
 intro l
 induction l with
 |nil=>intro sn r h;exact h
 | cons t l ih =>
   intro sn r hh;rw[hiL]at hh ⊢
   cases hp:p t sn with
   |none=>rw[hp]at hh;cases hh
   | some w =>
     rw[hp]at hh;rw[h _ _ _ hp];obtain⟨b,sn'⟩:=w;cases b
     . exact ih _ _ hh
     . exact hh
theorem zxJ (s:Store) (h:Int):∀ (f:Nat) (t:Ty) (sn:List Int) (r:Bool×List Int),hiM s h f t sn=some r->hiM s h (f+1) t sn=some r:=by
 intro f
 induction f with
 |zero=>intro t sn r hh;cases hh
 | succ f ih =>
   intro t sn r hh;rw[hiM]at hh ⊢;split
   . rename_i hk;rw[if_pos hk]at hh;split
     . rename_i hm;rw[if_pos hm]at hh;exact hh
     . rename_i hm;rw[if_neg hm]at hh;split
       . rename_i e;rw[e]at hh;exact hh
       . rename_i x e;rw[e]at hh;simp only at hh;split
         . rename_i hb;rw[if_pos hb]at hh;exact ih _ _ _ hh
         . rename_i hb;rw[if_neg hb]at hh;exact hh
   . rename_i hk;rw[if_neg hk]at hh;split
     . rename_i h3;rw[if_pos h3]at hh;exact hh
     . rename_i h3;rw[if_neg h3]at hh;exact zop ih _ _ _ hh
theorem zez{s:Store}{h:Int}{f g:Nat}(hfg:f<=g){t:Ty}{sn:List Int}{r:Bool×List Int}(hh:hiM s h f t sn=some r):hiM s h g t sn=some r:=by
 induction hfg with
 |refl=>exact hh
 |step _ ih=>exact zxJ _ _ _ _ _ _ ih
theorem zxK{s:Store}{h:Int}:∀ (l:List Ty),(∀ u∈l,∃ f,∀ sn,∃ r,hiM s h f u sn=some r)->∃ f,∀ sn,∃ r,hiL (hiM s h f) l sn=some r:=by
 intro l
 induction l with
 |nil=>intro _;exact⟨0,fun sn=>⟨_,rfl⟩⟩
 | cons t l ih =>
   intro hh;obtain⟨f,hf⟩:=hh t (List.mem_cons_self ..);obtain⟨g,hg⟩:=ih fun u hu=>hh u (List.mem_cons_of_mem _ hu)
   refine⟨max f g,fun sn=>?_⟩;obtain⟨⟨b,sn'⟩,hr⟩:=hf sn;rw[hiL,zez (Nat.le_max_left f g) hr];cases b
   . obtain⟨r,hr2⟩:=hg sn';exact⟨r,zop (fun t sn r hh=>zez (Nat.le_max_right f g) hh) _ _ _ hr2⟩
   . exact⟨_,rfl⟩
theorem zni {s:Store} {h:Int} {t:Ty} (ht:s.Fin t):∃ f,∀ sn,∃ r,hiM s h f t sn=some r:=by
 refine Fin.ind (p:=fun t=>∃ f,∀ sn,∃ r,hiM s h f t sn=some r) (fun t hb ih=>?_) (fun t hb ih=>?_) ht
 . obtain⟨f,hf⟩:=ih;obtain⟨hk,i,x,hi,hl,hx,hxb,hto⟩:=bound_slot hb;refine⟨f+1,fun sn=>?_⟩;have e:s.slot? t.id=some x:=by rw[hi,slot?_nat];exact hx
   rw[hiM,if_pos hk];split
   . exact⟨_,rfl⟩
   . rw[e];simp only;rw[if_pos hxb,<- hto];exact hf _
 . obtain ⟨f,hf⟩:=zxK (h:=h) t.args ih;refine⟨f+1,fun sn=>?_⟩;rw[hiM];split
   . rename_i hk;split
     . exact⟨_,rfl⟩
     . split
       . exact⟨_,rfl⟩
       . rename_i x e;split
         . rename_i hxb;have:=bound_eq hk e;rw[hb,hxb]at this;cases this
         . exact⟨_,rfl⟩
   . split
     . exact⟨_,rfl⟩
     . exact hf sn
inductive Bl (s:Store):Ty->Ty->Prop
 |one {u t:Ty}:s.below u t->Bl s u t
 |more {u v t:Ty}:s.below u v->Bl s v t->Bl s u t
theorem Bl.tail{s:Store}{u v t:Ty}(h:Bl s u v)(k:s.below v t):Bl s u t:=by
 induction h with
 |one h=>exact .more h (.one k)
 |more h _ ih=>exact .more h (ih k)
theorem Bl.irr {s:Store} {t:Ty} (h:s.Fin t):¬ Bl s t t:=by
 have key:∀ t,Acc s.below t->Acc (Bl s) t:=fun t ht=>by
  induction ht with
  | intro t _ ih =>
    refine .intro t fun u hu=>?_
    clear h
    have:∀ u v,Bl s u v->v=t->Acc (Bl s) u:=fun u v huv=>by
     induction huv with
     |one h=>intro e;subst e;exact ih _ h
     |more h _ ih2=>intro e;exact(ih2 e).inv (.one h)
    exact this u t hu rfl
 have irr:∀ t,Acc (Bl s) t->¬ Bl s t t:=fun t ht=>by
  induction ht with
  |intro t _ ih=>intro hh;exact ih t hh hh
 exact irr t (key t h)
theorem Reach.bl{s:Store}{id:Int}{u:Ty}(h:s.Reach id u):∃ v:Ty,v.kind=1/\v.id=id/\(v=u\/Bl s v u):=by
 induction h with
 |here h1 h2=>exact⟨_,h1,h2,.inl rfl⟩
 | to hb _ ih =>
   obtain⟨v,h1,h2,h3⟩:=ih;refine⟨v,h1,h2,.inr ?_⟩;rcases h3 with rfl|h3
   . exact .one (.inl ⟨hb,rfl⟩)
   . exact h3.tail (.inl ⟨hb,rfl⟩)
 | arg hb hu _ ih =>
   obtain⟨v,h1,h2,h3⟩:=ih;refine⟨v,h1,h2,.inr ?_⟩;rcases h3 with rfl|h3
   . exact .one (.inr ⟨hb,hu⟩)
   . exact h3.tail (.inr ⟨hb,hu⟩)
theorem z8r{s:Store}{t:Ty}(h:s.Fin t)(hb:s.bound t=true):¬ s.Reach t.id (s.to t):=by
 intro hr;obtain⟨v,h1,h2,h3⟩:=hr.bl;obtain⟨b1,b2⟩:=zkq hb h1 h2;have hv:s.below (s.to t) v:=.inl ⟨b1,b2.symm⟩;refine Bl.irr (h.to hb) ?_;rcases h3 with rfl|h3
 . exact .one hv
 . exact .more hv h3
inductive Rg (s:Store) (z:Ty):Ty->Prop
 |here:z.kind=3->Rg s z z
 |to {t:Ty}:s.bound t=true->Rg s z (s.to t)->Rg s z t
 |arg {t u:Ty}:s.bound t=false->u∈t.args->Rg s z u->Rg s z t
def Low(s:Store)(h:Int)(t:Ty):Prop:=∀ z,Rg s z t->z.home<=h
structure HiOk(s:Store)(h:Int)(t:Ty)(sn:List Int)(r:Bool×List Int):Prop where
 yes:r.1=true->∃ z,Rg s z t/\h<z.home
 no:r.1=false->s.Low h t
 seen:r.1=false->∀ i∈r.2,i∈sn\/s.Low h (zad i)
theorem Rg.of_var{s:Store}{z t:Ty}(hk:t.kind=1)(hb:s.bound t=false)(ha:t.args=[])(h:Rg s z t):False:=by
 cases h with
 |here h=>omega
 |to h _=>rw[hb]at h;cases h
 |arg _ hu _=>rw[ha]at hu;cases hu
theorem Rg.of_to{s:Store}{z t:Ty}(hb:s.bound t=true)(h:Rg s z t):Rg s z (s.to t):=by
 cases h with
 |here h=>have:=zcr hb;omega
 |to _ h=>exact h
 |arg h _ _=>rw[hb]at h;cases h
section
variable {n S:Nat}{s:Store}(hs:Tame n S s)(hv:AllV s)
include hs hv
theorem zMu {h:Int}:∀ (f S':Nat) (t:Ty) (sn:List Int) (r:Bool×List Int),TyOk n S' t->t.valid=true->(∀ i∈sn,s.Reach i t->s.Low h (zad i))->hiM s h f t sn=some r->HiOk s h t sn r:=by
 intro f
 induction f with
 |zero=>intro S' t sn r _ _ _ hh;cases hh
 | succ f ih =>
   intro S' t sn r ht hval hpre hh;have hfin:=hs.finT t ht;rw[hiM]at hh;split at hh
   . rename_i hk;obtain⟨h0,h1⟩:=ht.vars t (.self hk);obtain⟨i,hi⟩:=Int.eq_ofNat_of_zero_le h0;have ha:=ht.noargs hk;have hvt:t=zad t.id:=zbH ht.plain hk;split at hh
     . rename_i hm;cases hh;have:=hpre _ hm (.here hk rfl);rw[<- hvt]at this;exact⟨fun e=>(by cases e),fun _=>this,fun _ i hi=>.inl hi⟩
     . rename_i hm;have hlen:i<s.slots.length:=by rw[hs.len];omega
       have e:s.slot? t.id=some s.slots[i]:=by rw[hi,slot?_nat];exact List.getElem?_eq_getElem hlen
       rw[e]at hh;simp only at hh;have hbe:=bound_eq hk e;split at hh
       . rename_i hb;rw[hb]at hbe;have hto:s.to t=s.slots[i].type:=by unfold Store.to;rw[e]
         rw[<- hto]at hh;have hT:=hs.to hbe;have hns:=z8r hfin hbe
         have hr:=ih _ _ _ _ hT (zq9 hv hbe) (fun j hj hrj=>by
          rcases List.mem_append.1 hj with hj|hj
          . exact hpre j hj (.to hbe hrj)
          . rw[List.mem_singleton.1 hj]at hrj;exact absurd hrj hns) hh
         have hlow:r.1=false->s.Low h t:=fun e z hz=>hr.no e z (hz.of_to hbe)
         refine⟨fun e=>?_,hlow,fun e j hj=>?_⟩
         . obtain⟨z,hz,hlt⟩:=hr.yes e;exact⟨z,.to hbe hz,hlt⟩
         . rcases hr.seen e j hj with hj|hj
           . rcases List.mem_append.1 hj with hj|hj
             . exact .inl hj
             . refine .inr ?_;rw[List.mem_singleton.1 hj,<- hvt];exact hlow e
           . exact .inr hj
       . rename_i hb;have hbe':s.bound t=false:=by rw[hbe];simpa using hb
         cases hh;have hlow:s.Low h t:=fun z hz=>(hz.of_var hk hbe' ha).elim
         refine⟨fun e=>(by cases e),fun _=>hlow,fun _ j hj=>?_⟩;rcases List.mem_append.1 hj with hj|hj
         . exact .inl hj
         . refine .inr ?_;rw[List.mem_singleton.1 hj,<- hvt];exact hlow
   . rename_i hk
     have hnb:s.bound t=false:=by
      cases hb:s.bound t with
      |false=>rfl
      |true=>exact absurd (zcr hb) hk
     split at hh
     . rename_i h3;cases hh
       have ha:t.args=[]:=by
        obtain⟨k,n,i,h,l⟩:=t;simp only[Ty.kind_mk]at h3;subst h3;unfold Ty.valid at hval;simp at hval;exact hval.2
       refine⟨fun e=>⟨t,.here h3,of_decide_eq_true e⟩,fun e z hz=>?_,fun _ j hj=>.inl hj⟩;have e:=of_decide_eq_false e
       cases hz with
       |here _=>omega
       |to hb _=>rw[hnb]at hb;cases hb
       |arg _ hu _=>rw[ha]at hu;cases hu
     . rename_i h3
       have key:∀ (l:List Ty) (sn:List Int) (r:Bool×List Int),(∀ u∈l,TyOk n S' u/\u.valid=true)->(∀ i∈sn,∀ u∈l,s.Reach i u->s.Low h (zad i))->hiL (hiM s h f) l sn=some r ->
        (r.1=true->∃ u∈l,∃ z,Rg s z u/\h<z.home)/\(r.1=false->(∀ u∈l,s.Low h u)/\∀ i∈r.2,i∈sn\/s.Low h (zad i)):=by
        intro l
        induction l with
        |nil=>intro sn r _ _ hh;cases hh;exact⟨fun e=>(by cases e),fun _=>⟨fun u hu=>(by cases hu),fun i hi=>.inl hi⟩⟩
        | cons u l ihl =>
          intro sn r hl hp hh;rw[hiL]at hh
          cases hq:hiM s h f u sn with
          |none=>rw[hq]at hh;cases hh
          | some w =>
            rw[hq]at hh;obtain⟨b,sn'⟩:=w;obtain⟨hu1,hu2⟩:=hl u (List.mem_cons_self ..);have h1:=ih _ _ _ _ hu1 hu2 (fun i hi hr=>hp i hi u (List.mem_cons_self ..) hr) hq
            cases b with
            | true =>
              cases hh;obtain⟨z,hz⟩:=h1.yes rfl;exact⟨fun _=>⟨u,List.mem_cons_self ..,z,hz⟩,fun e=>(by cases e)⟩
            | false =>
              simp only at hh
              obtain⟨g1,g2⟩:=ihl sn' r (fun v hv=>hl v (List.mem_cons_of_mem _ hv)) (fun i hi v hv hr=>by
               rcases h1.seen rfl i hi with hi|hi
               . exact hp i hi v (List.mem_cons_of_mem _ hv) hr
               . exact hi) hh
              refine⟨fun e=>?_,fun e=>⟨fun v hv=>?_,fun i hi=>?_⟩⟩
              . obtain⟨v,hv,z,hz⟩:=g1 e;exact⟨v,List.mem_cons_of_mem _ hv,z,hz⟩
              . rcases List.mem_cons.1 hv with rfl|hv
                . exact h1.no rfl
                . exact(g2 e).1 v hv
              . rcases(g2 e).2 i hi with hi|hi
                . exact h1.seen rfl i hi
                . exact .inr hi
       obtain⟨g1,g2⟩:=key _ _ _ (fun u hu=>⟨ht.arg hu,Ty.valid_args hval u hu⟩) (fun i hi u hu hr=>hpre i hi (.arg hnb hu hr)) hh;refine⟨fun e=>?_,fun e z hz=>?_,fun e=>(g2 e).2⟩
       . obtain⟨u,hu,z,hz,hlt⟩:=g1 e;exact⟨z,.arg hnb hu hz,hlt⟩
       . cases hz with
         |here h=>exact absurd h h3
         |to hb _=>rw[hnb]at hb;cases hb
         |arg _ hu hz=>exact(g2 e).1 _ hu z hz
end
theorem Rg.walk{s:Store}{z:Ty}:∀ (k:Nat) {t:Ty},Rg s z (s.walkN k t)->Rg s z t:=by
 intro k
 induction k with
 |zero=>intro t h;exact h
 | succ k ih =>
   intro t h;unfold Store.walkN at h;split at h
   . rename_i hb;exact .to hb (ih h)
   . exact h
theorem zDK {n S:Nat} {s:Store} (hs:Tame n S s) (hv:AllV s) {t:Ty} {S':Nat} (hS:S<=S') (ht:TyOk n S' t) (hval:t.valid=true) {r:Ty} (hr:Rz s.w16 t r):∀ z,Lf 3 z r↔Rg s z t:=by
 intro z;constructor
 . have key:∀ (r:Ty),∀ t,TyOk n S' t->Rz s.w16 t r->Lf 3 z r->Rg s z t:=fun r=>by
    induction r using Ty.ind with
    | h r ih =>
      intro t ht hr hl;obtain⟨l,h1,h2⟩:=Rz_iff.1 hr;have hb:=(hs.finT t ht).walk.1;refine Rg.walk (s.slots.length+1) (t:=t) ?_;show Rg s z (s.w16 t)
      cases hl with
      | here h3 h4 =>
        rw[h2]at h3 h4;simp only[Ty.args_mk,Ty.kind_mk]at h3 h4;subst h4
        have hwa:(s.w16 t).args=[]:=by
         have:=h1.sizes_pos;exact List.eq_nil_of_length_eq_zero (by simpa using this)
        have e:s.w16 t=z:=by
         rw[h2];generalize s.w16 t=w at *;obtain⟨k,n,i,h,a⟩:=w;simp only[Ty.args_mk]at hwa;subst hwa;rfl
        have hk:z.kind=3:=by rw[h2];exact h3
        rw[e];exact .here hk
      | arg hu hl =>
        rename_i u;have hu':=hu;rw[h2]at hu;simp only[Ty.args_mk]at hu;obtain⟨v,hv2,hvu⟩:=Rzs.back h1 hu;have hwt:TyOk n S' (s.w16 t):=hs.walkN hS (s.slots.length+1) ht;exact .arg hb hv2 (ih u hu' v (hwt.arg hv2) hvu hl)
   exact key r t ht hr
 . intro h
   induction h generalizing r S' with
   | here h3 =>
     have ha:z.args=[]:=by
      obtain⟨k,n,i,h,l⟩:=z;simp only[Ty.kind_mk]at h3;subst h3;unfold Ty.valid at hval;simp at hval;exact hval.2
     have hb:s.bound z=false:=by
      cases hb:s.bound z with
      |false=>rfl
      |true=>have:=zcr hb;omega
     obtain⟨l,h1,h2⟩:=Rz_iff.1 hr;have e:s.w16 z=z:=zcm hb _;rw[e,ha]at h1;cases h1;rw[e]at h2
     have:r=z:=by
      rw[h2];obtain⟨k,n,i,h,a⟩:=z;simp only[Ty.args_mk]at ha;subst ha;rfl
     rw[this];exact .here h3 ha
   | to hb _ ih =>
     refine ih (Nat.le_refl S) (hs.to hb) (zq9 hv hb) ?_;rename_i t0 _;have e:=zk3 (hs.finT t0 ht) hb;obtain⟨l,h1,h2⟩:=Rz_iff.1 hr;rw[e]at h1 h2;exact Rz_iff.2 ⟨l,h1,h2⟩
   | arg hb hu _ ih =>
     rename_i t0 u0 _;obtain⟨l,h1,h2⟩:=Rz_iff.1 hr;have e:s.w16 t0=t0:=zcm hb _;rw[e]at h1 h2;obtain⟨y,hy,hyr⟩:=Rzs.part h1 hu;rw[h2];exact .arg hy (ih hS (ht.arg hu) (Ty.valid_args hval _ hu) hyr)
theorem zEU{n S:Nat}{s:Store}(hs:Tame n S s)(hv:AllV s){t r:Ty}{S':Nat}(hS:S<=S')(ht:TyOk n S' t)(hval:t.valid=true)(hr:Rz s.w16 t r){h:Int}{f:Nat}{q:Bool×List Int}(hq:hiM s h f t []=some q) :
 q.1=true↔∃ x∈zbl [r],h<x.home:=by
 have h1:=zMu hs hv f _ _ _ _ ht hval (fun i hi=>by cases hi) hq;have h2:=zDK hs hv hS ht hval hr;constructor
 . intro e;obtain⟨z,hz,hlt⟩:=h1.yes e;exact⟨z,mem_rigids.2 ((h2 z).2 hz),hlt⟩
 . rintro ⟨x,hx,hlt⟩
   cases e:q.1 with
   |true=>rfl
   | false =>
     have:=h1.no e x ((h2 x).1 (mem_rigids.1 hx));omega
end Store
end Go.J
/- The program's unification in a store: its model,and that it leaves the same slots as the reference's. -/
namespace Go.J
open Enc (enc)
namespace Store
def setP(s:Store)(i:Int)(x:Slot):Store:=if (s.slotD i).bound=x.bound/\(s.slotD i).home=x.home/\(s.slotD i).base=x.base then s else (s.set i x).1
def giveP(s:Store)(i:Int)(t:Ty):Store:=s.setP i { s.slotD i with bound:=true,type:=t }
def joinLP(s:Store)(a b:Int):Slot:={ s.slotD a with home:=min (s.slotD a).home (s.slotD b).home,base:=(s.slotD a).base||(s.slotD b).base }
def joinP(s:Store)(a b:Ty):Store:=if b.id<a.id then (s.setP b.id (s.joinLP b.id a.id)).giveP a.id b else (s.setP a.id (s.joinLP a.id b.id)).giveP b.id a
def freeS(s:Store)(t:Ty):Bool:=s.isSlot t&&!(s.slotD t.id).bound
def lowP(home:Int)(s:Store)(v:Int):Store:=if s.freeS (zad v)=true then s.setP v { s.slotD v with home:=min (s.slotD v).home home }else s
def highB(s:Store)(h:Int)(t:Ty):Bool:=open Classical in if hh:∃ q,∃ f,hiM s h f t []=some q then hh.choose.1 else false
theorem highB_eq{s:Store}{h:Int}{t:Ty}{f:Nat}{q:Bool×List Int}(hq:hiM s h f t []=some q):s.highB h t=q.1:=by
 have hh:∃ q,∃ f,hiM s h f t []=some q:=⟨q,f,hq⟩;unfold highB;rw[dif_pos hh];obtain⟨g,hg⟩:=hh.choose_spec;have h1:=zez (Nat.le_max_left f g) hq;have h2:=zez (Nat.le_max_right f g) hg;rw[h1]at h2;rw[Option.some.inj h2]
def bindP(s:Store)(v:Int)(t:Ty):Store×Int :=
 if v∈varsS s [t]then (s,12)else
 if (s.slotD v).base=true/\(zaH t).c=true then (s,14)else
 if s.highB (s.slotD v).home t=true then (s,13)else
 (((varsS s [t]).foldl (lowP (s.slotD v).home) s).giveP v t,0)
def pairP(s:Store)(a b:Ty):List Equation×Int×Store :=
 if 200<sz s.w a 200\/200<sz s.w b 200 then ([],15,s)else
 if (s.w a).kind=1/\(s.w b).kind=1/\(s.w a).id=(s.w b).id then ([],0,s)else
 if s.freeS (s.w a)=true then (if s.freeS (s.w b)=true then ([],0,s.joinP (s.w a) (s.w b))else ([],(s.bindP (s.w a).id (s.w b)).2,(s.bindP (s.w a).id (s.w b)).1))else
 if s.freeS (s.w b)=true then ([],(s.bindP (s.w b).id (s.w a)).2,(s.bindP (s.w b).id (s.w a)).1)else
 if clash (s.w a) (s.w b)then ([],11,s)else
 (List.zipWith (fun x y=>(⟨x,y⟩:Equation)) (s.w a).args (s.w b).args,0,s)
structure Tw(s p:Store):Prop where
 slots:p.slots=s.slots
 trail:p.trail.length<=s.trail.length
theorem Tw.refl(s:Store):Tw s s:=⟨rfl,Nat.le_refl _⟩
section
variable {s p:Store}
theorem Tw.slot? (h:Tw s p)(i:Int):p.slot? i=s.slot? i:=by unfold Store.slot?;rw[h.slots]
theorem Tw.slotD(h:Tw s p)(i:Int):p.slotD i=s.slotD i:=by unfold Store.slotD;rw[h.slot?]
theorem Tw.bound(h:Tw s p)(t:Ty):p.bound t=s.bound t:=by unfold Store.bound;rw[h.slot?]
theorem Tw.to(h:Tw s p)(t:Ty):p.to t=s.to t:=by unfold Store.to;rw[h.slot?]
theorem Tw.isSlot(h:Tw s p)(t:Ty):p.isSlot t=s.isSlot t:=by unfold Store.isSlot;rw[h.slot?]
theorem Tw.walkN(h:Tw s p):∀ (n:Nat) (t:Ty),p.walkN n t=s.walkN n t:=by
 intro n
 induction n with
 |zero=>intro t;rfl
 | succ n ih =>
   intro t;unfold Store.walkN;rw[h.bound,h.to,ih]
theorem Tw.w(h:Tw s p):p.w=s.w:=funext fun t=>by unfold Store.w;rw[h.slots];exact h.walkN _ t
theorem Tw.w16(h:Tw s p):p.w16=s.w16:=funext fun t=>by unfold Store.w16;rw[h.slots];exact h.walkN _ t
theorem Tw.vsM(h:Tw s p):∀ (f:Nat) (t:Ty) (st:List Int×List Bool),J.vsM p f t st=J.vsM s f t st:=by
 intro f
 induction f with
 |zero=>intro t st;rfl
 | succ f ih =>
   intro t st;rw[J.vsM,J.vsM,h.bound,h.to,ih];have e:(fun st x=>J.vsM p f x st)=(fun st x=>J.vsM s f x st):=funext fun st=>funext fun x=>ih x st
   rw[e]
theorem Tw.varsS(h:Tw s p)(l:List Ty):J.varsS p l=J.varsS s l:=by
 unfold J.varsS;rw[h.slots];have e:(fun st x=>J.vsM p 100000 x st)=(fun st x=>J.vsM s 100000 x st):=funext fun st=>funext fun x=>h.vsM _ x st
 rw[e]
theorem Tw.hiM(h:Tw s p)(hm:Int):∀ (f:Nat) (t:Ty) (sn:List Int),Store.hiM p hm f t sn=Store.hiM s hm f t sn:=by
 intro f
 induction f with
 |zero=>intro t sn;rfl
 | succ f ih =>
   intro t sn;have e:Store.hiM p hm f=Store.hiM s hm f:=funext fun t=>funext fun sn=>ih t sn
   rw[Store.hiM,Store.hiM,h.slot?,e]
theorem Tw.highB(h:Tw s p)(hm:Int)(t:Ty):p.highB hm t=s.highB hm t:=by
 unfold Store.highB;have e:Store.hiM p hm=Store.hiM s hm:=funext fun f=>funext fun t=>funext fun sn=>h.hiM hm f t sn
 rw[e]
theorem Tw.tame{n S:Nat}(h:Tw s p)(ht:Tame n S s):Tame n S p:=by
 refine⟨by rw[h.slots];exact ht.len,by rw[h.slots];exact ht.types,fun i hi=>?_⟩;have e:p.below=s.below:=funext fun u=>funext fun t=>by unfold Store.below;rw[h.bound,h.to]
 have:=ht.fin i hi;unfold Store.Fin at this ⊢;rw[e];exact this
theorem Tw.unb(h:Tw s p):p.unb=s.unb:=by unfold Store.unb;rw[h.slots]
theorem zD8(h:Tw s p)(i:Int)(x:Slot):Tw (s.set i x).1 (p.set i x).1:=by
 unfold Store.set;rw[h.slot?]
 cases e:s.slot? i with
 |none=>exact h
 |some o=>exact⟨by simp[h.slots],by simpa using h.trail⟩
theorem z7G{x y:Slot}(h1:x.bound=y.bound)(h2:x.home=y.home)(h3:x.base=y.base)(h4:x.type=y.type):x=y:=by
 cases x;cases y;simp_all
theorem zmK(h:Tw s p){i:Nat}(hi:i<s.slots.length){x:Slot}(ht:x.bound=(s.slotD (i:Int)).bound->x.type=(s.slotD (i:Int)).type):Tw (s.set (i:Int) x).1 (p.setP (i:Int) x):=by
 unfold setP;split
 . rename_i hh;rw[h.slotD]at hh;have e:=z7G hh.1 hh.2.1 hh.2.2 (ht hh.1.symm).symm;rw[set_some hi];refine⟨?_,by simp;have:=h.trail;omega⟩;show p.slots=s.slots.set i x;rw[h.slots,<- e,slotD_at hi,List.set_getElem_self]
 . exact zD8 h _ _
theorem zqS(h:Tw s p){i:Int}{x:Slot}(hx:x=s.slotD i):p.setP i x=p:=by
 unfold setP;rw[if_pos];rw[h.slotD,hx];exact⟨rfl,rfl,rfl⟩
theorem zkS{i j:Nat}(hij:i≠j)(hi:i<s.slots.length)(x:Slot):(s.set (i:Int) x).1.slotD (j:Int)=s.slotD (j:Int):=by
 unfold Store.slotD;rw[slot?_nat,slot?_nat,zD9 hi hij]
theorem zwJ{i:Nat}(hi:i<s.slots.length)(x:Slot):(s.set (i:Int) x).1.slots.length=s.slots.length:=by rw[set_some hi];simp
theorem zrQ(h:Tw s p){i:Nat}(hi:i<s.slots.length)(hb:(s.slotD (i:Int)).bound=false){t:Ty}:Tw (s.set (i:Int) { s.slotD (i:Int)with bound:=true,type:=t }).1 (p.giveP (i:Int) t):=by
 unfold giveP;rw[h.slotD];exact zmK h hi fun e=>by simp[hb]at e
theorem zd5{n S:Nat}(hs:Tame n S s){i:Nat}(hi:i<n):(s.slotD (i:Int)).bound=s.bound (zad (i:Int)):=by
 have hil:i<s.slots.length:=by rw[hs.len];exact hi
 have e:=bound_eq (s:=s) (t:=zad (i:Int)) rfl (by show s.slot? (i:Int)=some s.slots[i];rw[slot?_nat];exact List.getElem?_eq_getElem hil);rw[slotD_at hil,e]
theorem z8C{n S:Nat}(hs:Tame n S s)(h:Tw s p){i j:Nat}(hi:i<n)(hj:j<n)(hij:i≠j)(h1:s.bound (zad (i:Int))=false)(h2:s.bound (zad (j:Int))=false):Tw (s.join (i:Int) (j:Int)) (p.joinP (zad (i:Int)) (zad (j:Int))):=by
 have key:∀ {lo hi:Nat},lo<n->hi<n->lo<hi->s.bound (zad (hi:Int))=false->∀ x y:Slot,x={ s.slotD (lo:Int)with home:=min (s.slotD (lo:Int)).home (s.slotD (hi:Int)).home,base:=(s.slotD (lo:Int)).base||(s.slotD (hi:Int)).base } ->
  y={ s.slotD (hi:Int)with bound:=true,type:=zad (lo:Int) }->Tw ((s.set (lo:Int) x).1.set (hi:Int) y).1 ((p.setP (lo:Int) (p.joinLP (lo:Int) (hi:Int))).giveP (hi:Int) (zad (lo:Int))):=by
  intro lo hi hlo hhi hlt hb x y hx hy;have hlol:lo<s.slots.length:=by rw[hs.len];exact hlo
  have hhil:hi<s.slots.length:=by rw[hs.len];exact hhi
  have ex:p.joinLP (lo:Int) (hi:Int)=x:=by rw[hx];unfold joinLP;rw[h.slotD,h.slotD]
  rw[ex];have t1:=zmK h (x:=x) hlol (fun _=>by rw[hx]);have so:=zkS (s:=s) (i:=lo) (j:=hi) (by omega) hlol x;have t2:=zrQ t1 (i:=hi) (t:=zad (lo:Int)) (by rw[zwJ hlol];exact hhil) (by rw[so,zd5 hs hhi];exact hb);rw[so]at t2;rw[hy];exact t2
 unfold Store.join joinP;rw[if_neg (by omega)];unfold joinL joinH;show Tw _ (if (j:Int)<(i:Int)then _ else _);split
 . rename_i hlt;have e1:min (i:Int) (j:Int)=(j:Int):=by omega
   have e2:max (i:Int) (j:Int)=(i:Int):=by omega
   rw[e1,e2];exact key hj hi (by omega) h1 _ _ rfl rfl
 . rename_i hlt;have e1:min (i:Int) (j:Int)=(i:Int):=by omega
   have e2:max (i:Int) (j:Int)=(j:Int):=by omega
   rw[e1,e2];exact key hi hj (by omega) h2 _ _ rfl rfl
theorem zEF{n S:Nat}(hs:Tame n S s)(h:Tw s p)(home:Int){v:Int}(h0:0<=v)(hv:v<n)(hb:s.bound (zad v)=false):Tw (lowerOne home s v) (lowP home p v):=by
 obtain⟨i,rfl⟩:=Int.eq_ofNat_of_zero_le h0;have hil:i<s.slots.length:=by rw[hs.len];omega
 have hfree:p.freeS (zad (i:Int))=true:=by
  unfold freeS;rw[h.isSlot,show (zad (i:Int)).id=(i:Int) from rfl,h.slotD,zd5 hs (by omega),hb];unfold Store.isSlot;show (decide (1=1)&&(s.slot? (i:Int)).isSome&&!false)=true;rw[slot?_nat,List.getElem?_eq_getElem hil];rfl
 unfold lowP lowerOne;rw[if_pos hfree,h.slotD];by_cases hh:home<(s.slotD (i:Int)).home
 . rw[if_pos ⟨by omega,hh⟩];have e:min (s.slotD (i:Int)).home home=home:=by omega
   rw[e];exact zmK h hil fun _=>rfl
 . rw[if_neg fun hq=>hh hq.2];have e:min (s.slotD (i:Int)).home home=(s.slotD (i:Int)).home:=by omega
   rw[e,zqS h rfl];exact h
theorem z81{n S:Nat}(home:Int):∀ (l:List Int) {s p:Store},Tame n S s->Tw s p->(∀ v∈l,0<=v/\v<n/\s.bound (zad v)=false)->Tw (l.foldl (lowerOne home) s) (l.foldl (lowP home) p):=by
 intro l
 induction l with
 |nil=>intro s p _ h _;exact h
 | cons v l ih =>
   intro s p hs h hl;obtain⟨h0,h1,h2⟩:=hl v (List.mem_cons_self ..);have hsame:=(zjf (s:=s) home h0).1;rw[List.foldl_cons,List.foldl_cons];refine ih (hsame.tame hs) (zEF hs h home h0 h1 h2) fun w hw=>?_
   obtain⟨g0,g1,g2⟩:=hl w (List.mem_cons_of_mem _ hw);exact⟨g0,g1,by rw[hsame.bound];exact g2⟩
theorem zp0(home:Int):∀ (l:List Int) (s:Store) {i:Nat},(∀ v∈l,0<=v)->(i:Int) ∉ l->(l.foldl (lowerOne home) s).slotD (i:Int)=s.slotD (i:Int):=by
 intro l
 induction l with
 |nil=>intro s i _ _;rfl
 | cons v l ih =>
   intro s i h0 hi;rw[List.foldl_cons,ih _ (fun w hw=>h0 w (List.mem_cons_of_mem _ hw)) fun h=>hi (List.mem_cons_of_mem _ h)];unfold lowerOne;split
   . rename_i hh;obtain⟨k,rfl⟩:=Int.eq_ofNat_of_zero_le (h0 v (List.mem_cons_self ..));exact zkS (fun e=>hi (by rw[<- e];exact List.mem_cons_self ..)) (by omega) _
   . rfl
theorem z6Y (s:Store):∀ (f:Nat) (t:Ty) (st:List Int×List Bool),(∀ v∈st.1,s.bound (zad v)=false)->∀ v∈(J.vsM s f t st).1,s.bound (zad v)=false:=by
 intro f
 induction f with
 |zero=>intro t st h;exact h
 | succ f ih =>
   intro t st h;rw[J.vsM];split
   . rename_i hk;split
     . split
       . exact ih _ _ h
       . exact h
     . rename_i hb;split
       . exact h
       . intro v hv;rcases List.mem_append.1 hv with hv|hv
         . exact h v hv
         . rw[List.mem_singleton.1 hv,ze1 (s:=s) (t:=t) (u:=zad t.id) (by rw[hk];rfl) rfl];simpa using hb
   . have key:∀ (l:List Ty) (st:List Int×List Bool),(∀ v∈st.1,s.bound (zad v)=false)->∀ v∈(l.foldl (fun st x=>J.vsM s f x st) st).1,s.bound (zad v)=false:=by
      intro l
      induction l with
      |nil=>intro st h;exact h
      |cons x l ihl=>intro st h;exact ihl _ (ih x st h)
     exact key _ _ h
theorem zwk(s:Store)(t:Ty):∀ v∈J.varsS s [t],s.bound (zad v)=false:=by
 unfold J.varsS;exact z6Y s _ t _ fun v hv=>by cases hv
theorem zvy{n S:Nat}(hs:Tame n S s)(hv:AllV s)(h:Tw s p)(hS:1<=S)(hn:n*S+S<=90000){i:Nat}(hi:i<n)(h0:s.bound (zad (i:Int))=false){t:Ty}(ht:TyOk n S t)(hval:t.valid=true)(hz:∃ r,Rz s.w16 t r/\r.size<=200) :
 Tw (s.bindM (i:Int) t).1 (p.bindP (i:Int) t).1/\(p.bindP (i:Int) t).2=(s.bindM (i:Int) t).2:=by
 obtain⟨v1,v2,v3⟩:=hs.vars hS ht (by omega);obtain⟨r,hr,hrs⟩:=hz
 have hres:zT s.w16 t=(r,true):=by
  unfold zT;rw[if_pos (sz_fits.2 ⟨r,hr,by omega⟩),full_of hr]
 obtain⟨f,hf⟩:=zni (h:=(s.slotD (i:Int)).home) (hs.finT t ht);obtain⟨q,hq⟩:=hf [];have hlaw:=zEU hs hv (Nat.le_refl S) ht hval hr hq;have hB:=highB_eq hq;have hil:i<s.slots.length:=by rw[hs.len];exact hi
 unfold bindP bindM;rw[h.varsS,h.slotD,h.highB,hres,hB];by_cases c1:(i:Int)∈J.varsS s [t]
 . rw[if_pos c1,if_pos c1];exact⟨h,rfl⟩
 rw[if_neg c1,if_neg c1];by_cases c2:(zaH t).c=true/\(s.slotD (i:Int)).base=true
 . rw[if_pos c2,if_pos (show (s.slotD (i:Int)).base=true/\(zaH t).c=true from⟨c2.2,c2.1⟩)];exact⟨h,rfl⟩
 rw[if_neg c2,if_neg (show ¬ ((s.slotD (i:Int)).base=true/\(zaH t).c=true) from fun hh=>c2 ⟨hh.2,hh.1⟩)];by_cases c3:∃ x∈zbl [r],(s.slotD (i:Int)).home<x.home
 . rw[if_pos c3,if_pos (show q.1=true from hlaw.2 c3)];exact⟨h,rfl⟩
 rw[if_neg c3,if_neg (show ¬ q.1=true from fun hh=>c3 (hlaw.1 hh))]
 have c4:¬ ∃ v∈J.varsS s [t],(s.slots.length:Int)<=v/\(s.slotD (i:Int)).home<0:=by
  rintro ⟨v,hv,hl,_⟩;have:=(v1 v hv).2;rw[hs.len]at hl;omega
 rw[if_neg c4];refine⟨?_,rfl⟩;have t1:=z81 (s.slotD (i:Int)).home (J.varsS s [t]) hs h fun v hv=>⟨(v1 v hv).1,(v1 v hv).2,zwk s t v hv⟩
 . have hs1:=zd6 (s.slotD (i:Int)).home (J.varsS s [t]) s fun v hv=>(v1 v hv).1
   have hd:=zp0 (s.slotD (i:Int)).home (J.varsS s [t]) s (fun v hv=>(v1 v hv).1) c1;generalize (J.varsS s [t]).foldl (lowerOne (s.slotD (i:Int)).home) s=s1 at t1 hs1 hd;have:=zrQ t1 (i:=i) (t:=t) (by rw[hs1.1.len];exact hil) (by rw[hd,zd5 hs hi];exact h0);rw[hd]at this;exact this
end
end Store
end Go.J
/- The program's unification in a store: the work list does what the recursion does. -/
namespace Go.J
open Enc (enc)
namespace Store
section
variable {n S:Nat}
structure Stay(n S:Nat)(s:Store)(a b:Ty):Prop where
 tame:Tame n S s
 val:AllV s
 left:TyOk n S a
 right:TyOk n S b
 lv:a.valid=true
 rv:b.valid=true
theorem zqI{s:Store}(hs:Tame n S s){x:Ty}(hx:TyOk n S x)(hk:x.kind=1):s.isSlot x=true:=by
 obtain⟨h0,h1⟩:=hx.vars x (.self hk);obtain⟨i,hi⟩:=Int.eq_ofNat_of_zero_le h0;have hil:i<s.slots.length:=by rw[hs.len];omega
 unfold Store.isSlot;rw[hi,slot?_nat,List.getElem?_eq_getElem hil,decide_eq_true hk];rfl
theorem zrT{s p:Store}(hs:Tame n S s)(h:Tw s p){x:Ty}(hx:TyOk n S x)(hb:s.bound x=false):p.freeS x=s.isSlot x:=by
 unfold freeS;rw[h.isSlot,h.slotD]
 cases hh:s.isSlot x with
 |false=>rfl
 | true =>
   obtain⟨i,hi,e1,e1',b1,_⟩:=hs.slot hx hh hb;rw[e1',zd5 hs hi,b1];rfl
end
end Store
end Go.J
