import Derived.Test.YtocdkgjpdnamlaaGreatJNx
import Derived.Test.YtocdkgjpdnamlaaGreatJW
set_option linter.all false
noncomputable section
/- The program's unification in a store: the search for Od constants of later homes. -/
namespace Go.J
open Enc (enc)
namespace Store
def Qu (rec:Ty->List Int->Option (Bool×List Int)):List Ty->List Int->Option (Bool×List Int)
 | [],sn=>some (false,sn)
 | t::l,sn=>match rec t sn with
   |none=>none
   |some (true,nZ)=>some (true,nZ)
   |some (false,nZ)=>Qu rec l nZ
def hiM (s:Store) (h:Int):Nat->Ty->List Int->Option (Bool×List Int)
 | 0,_,_=>none
 | f + 1,t,sn=>if t.kind=1 then (if t.id∈sn then some (false,sn)else match s.slot? t.id with
     |none=>some (decide (h<0),sn++[t.id])
     |some x=>if x.bound=true then hiM s h f x.type (sn++[t.id])else some (false,sn++[t.id]))
   else if t.kind=3 then some (decide (h<t.home),sn)
   else Qu (hiM s h f) t.args sn
theorem O3{p q:Ty->List Int->Option (Bool×List Int)}(h:∀ t sn r,p t sn=some r->q t sn=some r):∀ (l:List Ty) (sn:List Int) (r:Bool×List Int),Qu p l sn=some r->Qu q l sn=some r:=by
 intro l
 induction l with
 |nil=>intro sn r h;exact h
 | cons t l ih =>
   grind [Qu,w]
theorem zdf(s:Store)(h:Int):∀ (f:Nat) (t:Ty) (sn:List Int) (r:Bool×List Int),hiM s h f t sn=some r->hiM s h (f+1) t sn=some r:=by
 intro f
 induction f with
 |zero=>intro t sn r hh;cases hh
 | succ f ih =>
   grind [hiM,O3]
theorem uP{s:Store}{h:Int}{f g:Nat}(hfg:f<=g){t:Ty}{sn:List Int}{r:Bool×List Int}(hh:hiM s h f t sn=some r):hiM s h g t sn=some r:=by
 induction hfg with
 |refl=>exact hh
 |step _ ih=>exact zdf _ _ _ _ _ _ ih
theorem zdg{s:Store}{h:Int}:∀ (l:List Ty),(∀ u∈l,∃ f,∀ sn,∃ r,hiM s h f u sn=some r)->∃ f,∀ sn,∃ r,Qu (hiM s h f) l sn=some r:=by
 intro l
 induction l with
 |nil=>intro _;exact⟨0,fun sn=>⟨_,rfl⟩⟩
 | cons t l ih =>
   intro hh;obtain⟨f,hf⟩:=hh t (List.mem_cons_self ..);obtain⟨g,hg⟩:=ih fun u hu=>hh u (List.mem_cons_of_mem _ hu)
   refine⟨max f g,fun sn=>?_⟩;obtain⟨⟨b,nZ⟩,hr⟩:=hf sn;rw[Qu,uP (Nat.le_max_left f g) hr];cases b
   . obtain⟨r,hr2⟩:=hg nZ
     grind [O3,uP,Nat.le_max_right]
   . exact⟨_,rfl⟩
theorem Mc {s:Store} {h:Int} {t:Ty} (ht:s.Fin t):∃ f,∀ sn,∃ r,hiM s h f t sn=some r:=by
 refine Fin.ind (p:=fun t=>∃ f,∀ sn,∃ r,hiM s h f t sn=some r) (fun t hb ih=>?_) (fun t hb ih=>?_) ht
 . obtain⟨f,hf⟩:=ih;obtain⟨hk,i,x,hi,hl,hx,hxb,hto⟩:=gG hb;refine⟨f+1,fun sn=>?_⟩;have e:s.slot? t.id=some x:=by rw[hi,slot?_nat];exact hx
   rw[hiM,if_pos hk];split
   . exact⟨_,rfl⟩
   . rw[e];simp only;rw[if_pos hxb,<- hto];exact hf _
 . obtain ⟨f,hf⟩:=zdg (h:=h) t.args ih;refine⟨f+1,fun sn=>?_⟩;rw[hiM];split
   . rename_i hk;split
     . exact⟨_,rfl⟩
     . split
       . exact⟨_,rfl⟩
       . rename_i x e;split
         . rename_i hxb;have:=j6 hk e;rw[hb,hxb]at this;cases this
         . exact⟨_,rfl⟩
   . split
     . exact⟨_,rfl⟩
     . exact hf sn
inductive Bl (s:Store):Ty->Ty->Prop
 |one {u t:Ty}:s.below u t->Bl s u t
 |more {u v t:Ty}:s.below u v->Bl s v t->Bl s u t
theorem Bl.tail{s:Store}{u v t:Ty}(h:Bl s u v)(k:s.below v t):Bl s u t:=by
 induction h with
 |one h=>exact .more h (.one k)
 |more h _ ih=>exact .more h (ih k)
theorem Bl.zKN {s:Store} {t:Ty} (h:s.Fin t):¬ Bl s t t:=by
 have key:∀ t,Acc s.below t->Acc (Bl s) t:=fun t ht=>by
  induction ht with
  | intro t _ ih =>
    refine .intro t fun u hu=>?_
    clear h
    have:∀ u v,Bl s u v->v=t->Acc (Bl s) u:=fun u v huv=>by
     induction huv with
     |one h=>intro e;subst e;exact ih _ h
     |more h _ ih2=>intro e;exact(ih2 e).inv (.one h)
    exact this u t hu rfl
 have zKN:∀ t,Acc (Bl s) t->¬ Bl s t t:=fun t ht=>by
  induction ht with
  |intro t _ ih=>intro hh;exact ih t hh hh
 exact zKN t (key t h)
theorem Reach.bl{s:Store}{id:Int}{u:Ty}(h:s.Reach id u):∃ v:Ty,v.kind=1/\v.id=id/\(v=u\/Bl s v u):=by
 induction h with
 |here h1 h2=>exact⟨_,h1,h2,.inl rfl⟩
 | to hb _ ih =>
   obtain⟨v,h1,h2,h3⟩:=ih;refine⟨v,h1,h2,.inr ?_⟩;rcases h3 with rfl|h3
   . exact .one (.inl ⟨hb,rfl⟩)
   . exact h3.tail (.inl ⟨hb,rfl⟩)
 | arg hb hu _ ih =>
   obtain⟨v,h1,h2,h3⟩:=ih;refine⟨v,h1,h2,.inr ?_⟩;rcases h3 with rfl|h3
   . exact .one (.inr ⟨hb,hu⟩)
   . exact h3.tail (.inr ⟨hb,hu⟩)
theorem zog{s:Store}{t:Ty}(h:s.Fin t)(hb:s.bound t=true):¬ s.Reach t.id (s.to t):=by
 intro hr;obtain⟨v,h1,h2,h3⟩:=hr.bl;obtain⟨b1,b2⟩:=IA hb h1 h2;have hv:s.below (s.to t) v:=.inl ⟨b1,b2.symm⟩;refine Bl.zKN (h.to hb) ?_;rcases h3 with rfl|h3
 . exact .one hv
 . exact .more hv h3
inductive Rg (s:Store) (z:Ty):Ty->Prop
 |here:z.kind=3->Rg s z z
 |to {t:Ty}:s.bound t=true->Rg s z (s.to t)->Rg s z t
 |arg {t u:Ty}:s.bound t=false->u∈t.args->Rg s z u->Rg s z t
def Low(s:Store)(h:Int)(t:Ty):Prop:=∀ z,Rg s z t->z.home<=h
structure zNy(s:Store)(h:Int)(t:Ty)(sn:List Int)(r:Bool×List Int):Prop where
 yes:r.1=true->∃ z,Rg s z t/\h<z.home
 no:r.1=false->s.Low h t
 seen:r.1=false->∀ i∈r.2,i∈sn\/s.Low h (aM i)
theorem Rg.zt6{s:Store}{z t:Ty}(hk:t.kind=1)(hb:s.bound t=false)(ha:t.args=[])(h:Rg s z t):False:=by
 cases h with
 |here h=>omega
 |to h _=>rw[hb]at h;cases h
 |arg _ hu _=>rw[ha]at hu;cases hu
theorem Rg.zB1{s:Store}{z t:Ty}(hb:s.bound t=true)(h:Rg s z t):Rg s z (s.to t):=by
 cases h with
 |here h=>have:=ng hb;omega
 |to _ h=>exact h
 |arg h _ _=>rw[hb]at h;cases h
section
variable {n S:Nat}{s:Store}(hs:bM n S s)(hv:jW s)
include hs hv
theorem zC6 {h:Int}:∀ (f S':Nat) (t:Ty) (sn:List Int) (r:Bool×List Int),bT n S' t->t.valid=true->(∀ i∈sn,s.Reach i t->s.Low h (aM i))->hiM s h f t sn=some r->zNy s h t sn r:=by
 intro f
 induction f with
 |zero=>intro S' t sn r _ _ _ hh;cases hh
 | succ f ih =>
   intro S' t sn r ht hval hpre hh;have hfin:=hs.nJ t ht;rw[hiM]at hh;split at hh
   . rename_i hk;obtain⟨h0,h1⟩:=ht.vars t (.self hk);obtain⟨i,hi⟩:=Int.eq_ofNat_of_zero_le h0;have ha:=ht.CX hk;have zyH:t=aM t.id:=bg ht.plain hk;split at hh
     . rename_i hm;cases hh;have:=hpre _ hm (.here hk rfl);rw[<- zyH]at this;exact⟨fun e=>(by cases e),fun _=>this,fun _ i hi=>.inl hi⟩
     . rename_i hm;have hlen:i<s.slots.length:=by rw[hs.len];omega
       have e:s.slot? t.id=some s.slots[i]:=by rw[hi,slot?_nat];exact List.getElem?_eq_getElem hlen
       rw[e]at hh;simp only at hh;have hbe:=j6 hk e;split at hh
       . rename_i hb;rw[hb]at hbe;have hto:s.to t=s.slots[i].type:=by unfold Store.to;rw[e]
         rw[<- hto]at hh;have hT:=hs.to hbe;have hns:=zog hfin hbe
         have hr:=ih _ _ _ _ hT (QL hv hbe) (fun j hj zK8=>by
          rcases List.mem_append.1 hj with hj|hj
          . exact hpre j hj (.to hbe zK8)
          . rw[List.mem_singleton.1 hj]at zK8;exact absurd zK8 hns) hh
         have hlow:r.1=false->s.Low h t:=fun e z hz=>hr.no e z (hz.zB1 hbe)
         refine⟨fun e=>?_,hlow,fun e j hj=>?_⟩
         . obtain⟨z,hz,hlt⟩:=hr.yes e;exact⟨z,.to hbe hz,hlt⟩
         . rcases hr.seen e j hj with hj|hj
           . rcases List.mem_append.1 hj with hj|hj
             . exact .inl hj
             . refine .inr ?_;rw[List.mem_singleton.1 hj,<- zyH];exact hlow e
           . exact .inr hj
       . rename_i hb;have zLs:s.bound t=false:=by rw[hbe];simpa using hb
         cases hh;have hlow:s.Low h t:=fun z hz=>(hz.zt6 hk zLs ha).elim
         refine⟨fun e=>(by cases e),fun _=>hlow,fun _ j hj=>?_⟩;rcases List.mem_append.1 hj with hj|hj
         . exact .inl hj
         . refine .inr ?_;rw[List.mem_singleton.1 hj,<- zyH];exact hlow
   . rename_i hk
     have hnb:s.bound t=false:=by
      cases hb:s.bound t with
      |false=>rfl
      |true=>exact absurd (ng hb) hk
     split at hh
     . rename_i h3;cases hh
       have ha:t.args=[]:=by
        obtain⟨k,n,i,h,l⟩:=t;simp only[Ty.dx]at h3;subst h3;unfold Ty.valid at hval;simp at hval;exact hval.2
       refine⟨fun e=>⟨t,.here h3,of_decide_eq_true e⟩,fun e z hz=>?_,fun _ j hj=>.inl hj⟩;have e:=of_decide_eq_false e
       cases hz with
       |here _=>omega
       |to hb _=>rw[hnb]at hb;cases hb
       |arg _ hu _=>rw[ha]at hu;cases hu
     . rename_i h3
       have key:∀ (l:List Ty) (sn:List Int) (r:Bool×List Int),(∀ u∈l,bT n S' u/\u.valid=true)->(∀ i∈sn,∀ u∈l,s.Reach i u->s.Low h (aM i))->Qu (hiM s h f) l sn=some r ->
        (r.1=true->∃ u∈l,∃ z,Rg s z u/\h<z.home)/\(r.1=false->(∀ u∈l,s.Low h u)/\∀ i∈r.2,i∈sn\/s.Low h (aM i)):=by
        intro l
        induction l with
        |nil=>intro sn r _ _ hh;cases hh;exact⟨fun e=>(by cases e),fun _=>⟨fun u hu=>(by cases hu),fun i hi=>.inl hi⟩⟩
        | cons u l ihl =>
          intro sn r hl hp hh;rw[Qu]at hh
          cases hq:hiM s h f u sn with
          |none=>rw[hq]at hh;cases hh
          | some w =>
            rw[hq]at hh;obtain⟨b,nZ⟩:=w;obtain⟨hu1,hu2⟩:=hl u (List.mem_cons_self ..);have h1:=ih _ _ _ _ hu1 hu2 (fun i hi hr=>hp i hi u (List.mem_cons_self ..) hr) hq
            cases b with
            | true =>
              cases hh;obtain⟨z,hz⟩:=h1.yes rfl;exact⟨fun _=>⟨u,List.mem_cons_self ..,z,hz⟩,fun e=>(by cases e)⟩
            | false =>
              simp only at hh
              obtain⟨g1,g2⟩:=ihl nZ r (fun v hv=>hl v (List.mem_cons_of_mem _ hv)) (fun i hi v hv hr=>by
               rcases h1.seen rfl i hi with hi|hi
               . exact hp i hi v (List.mem_cons_of_mem _ hv) hr
               . exact hi) hh
              refine⟨fun e=>?_,fun e=>⟨fun v hv=>?_,fun i hi=>?_⟩⟩
              . obtain⟨v,hv,z,hz⟩:=g1 e;exact⟨v,List.mem_cons_of_mem _ hv,z,hz⟩
              . rcases List.mem_cons.1 hv with rfl|hv
                . exact h1.no rfl
                . exact(g2 e).1 v hv
              . rcases(g2 e).2 i hi with hi|hi
                . exact h1.seen rfl i hi
                . exact .inr hi
       obtain⟨g1,g2⟩:=key _ _ _ (fun u hu=>⟨ht.arg hu,Ty.kG hval u hu⟩) (fun i hi u hu hr=>hpre i hi (.arg hnb hu hr)) hh;refine⟨fun e=>?_,fun e z hz=>?_,fun e=>(g2 e).2⟩
       . obtain⟨u,hu,z,hz,hlt⟩:=g1 e;exact⟨z,.arg hnb hu hz,hlt⟩
       . cases hz with
         |here h=>exact absurd h h3
         |to hb _=>rw[hnb]at hb;cases hb
         |arg _ hu hz=>exact(g2 e).1 _ hu z hz
end
theorem Rg.walk{s:Store}{z:Ty}:∀ (k:Nat) {t:Ty},Rg s z (s.bX k t)->Rg s z t:=by
 intro k
 induction k with
 |zero=>intro t h;exact h
 | succ k ih =>
   intro t h;unfold Store.bX at h;split at h
   . rename_i hb;exact .to hb (ih h)
   . exact h
theorem ztH {n S:Nat} {s:Store} (hs:bM n S s) (hv:jW s) {t:Ty} {S':Nat} (hS:S<=S') (ht:bT n S' t) (hval:t.valid=true) {r:Ty} (hr:Rz s.w16 t r):∀ z,Lf 3 z r↔Rg s z t:=by
 intro z;constructor
 . have key:∀ (r:Ty),∀ t,bT n S' t->Rz s.w16 t r->Lf 3 z r->Rg s z t:=fun r=>by
    induction r using Ty.ind with
    | h r ih =>
      intro t ht hr hl;obtain⟨l,h1,h2⟩:=gH.1 hr;have hb:=(hs.nJ t ht).walk.1;refine Rg.walk (s.slots.length+1) (t:=t) ?_;show Rg s z (s.w16 t)
      cases hl with
      | here h3 h4 =>
        rw[h2]at h3 h4;simp only[Ty.cZ,Ty.dx]at h3 h4;subst h4
        have jg:(s.w16 t).args=[]:=by
         have:=h1.oo
         grind
        have e:s.w16 t=z:=by
         rw[h2];generalize s.w16 t=w at *;obtain⟨k,n,i,h,a⟩:=w
         simp_all
        have hk:z.kind=3:=by rw[h2];exact h3
        rw[e];exact .here hk
      | arg hu hl =>
        rename_i u;have hu':=hu;rw[h2]at hu;simp only[Ty.cZ]at hu;obtain⟨v,hv2,hvu⟩:=wG.back h1 hu;have hwt:bT n S' (s.w16 t):=hs.bX hS (s.slots.length+1) ht;exact .arg hb hv2 (ih u hu' v (hwt.arg hv2) hvu hl)
   grind
 . intro h
   induction h generalizing r S' with
   | here h3 =>
     have ha:z.args=[]:=by
      obtain⟨k,n,i,h,l⟩:=z
      simp_all [Ty.valid]
     have hb:s.bound z=false:=by
      grind [ng]
     obtain⟨l,h1,h2⟩:=gH.1 hr;have e:s.w16 z=z:=kS hb _;rw[e,ha]at h1;cases h1;rw[e]at h2
     have:r=z:=by
      rw[h2];obtain⟨k,n,i,h,a⟩:=z
      simp_all
     rw[this];exact .here h3 ha
   | to hb _ ih =>
     refine ih (Nat.le_refl S) (hs.to hb) (QL hv hb) ?_;rename_i t0 _;have e:=zN (hs.nJ t0 ht) hb
     grind [gH]
   | arg hb hu _ ih =>
     rename_i t0 u0 _;obtain⟨l,h1,h2⟩:=gH.1 hr;have e:s.w16 t0=t0:=kS hb _;rw[e]at h1 h2;obtain⟨y,hy,zOB⟩:=wG.part h1 hu;rw[h2];exact .arg hy (ih hS (ht.arg hu) (Ty.kG hval _ hu) zOB)
theorem zu8{n S:Nat}{s:Store}(hs:bM n S s)(hv:jW s){t r:Ty}{S':Nat}(hS:S<=S')(ht:bT n S' t)(hval:t.valid=true)(hr:Rz s.w16 t r){h:Int}{f:Nat}{q:Bool×List Int}(hq:hiM s h f t []=some q) :
 q.1=true↔∃ x∈iD [r],h<x.home:=by
 have h1:=zC6 hs hv f _ _ _ _ ht hval (fun i hi=>by cases hi) hq;have h2:=ztH hs hv hS ht hval hr;constructor
 . intro e;obtain⟨z,hz,hlt⟩:=h1.yes e
   grind [Ah]
 . rintro ⟨x,hx,hlt⟩
   cases e:q.1 with
   |true=>rfl
   | false =>
     have:=h1.no e x ((h2 x).1 (Ah.1 hx));omega
end Store
end Go.J
/- The program's unification in a store: its model,and that it leaves the same slots as the fQ. -/
namespace Go.J
open Enc (enc)
namespace Store
def mF(s:Store)(i:Int)(x:Slot):Store:=if (s.aJ i).bound=x.bound/\(s.aJ i).home=x.home/\(s.aJ i).base=x.base then s else (s.set i x).1
def mY(s:Store)(i:Int)(t:Ty):Store:=s.mF i { s.aJ i with bound:=true,type:=t }
def qj(s:Store)(a b:Int):Slot:={ s.aJ a with home:=min (s.aJ a).home (s.aJ b).home,base:=(s.aJ a).base||(s.aJ b).base }
def lu(s:Store)(a b:Ty):Store:=if b.id<a.id then (s.mF b.id (s.qj b.id a.id)).mY a.id b else (s.mF a.id (s.qj a.id b.id)).mY b.id a
def iR(s:Store)(t:Ty):Bool:=s.bG t&&!(s.aJ t.id).bound
def qf(home:Int)(s:Store)(v:Int):Store:=if s.iR (aM v)=true then s.mF v { s.aJ v with home:=min (s.aJ v).home home }else s
def BI(s:Store)(h:Int)(t:Ty):Bool:=open Classical in if hh:∃ q,∃ f,hiM s h f t []=some q then hh.choose.1 else false
theorem O1{s:Store}{h:Int}{t:Ty}{f:Nat}{q:Bool×List Int}(hq:hiM s h f t []=some q):s.BI h t=q.1:=by
 have hh:∃ q,∃ f,hiM s h f t []=some q:=⟨q,f,hq⟩;unfold BI;rw[dif_pos hh];obtain⟨g,hg⟩:=hh.choose_spec;have h1:=uP (Nat.le_max_left f g) hq
 grind [uP,Nat.le_max_right,Option.some.inj]
def jG(s:Store)(v:Int)(t:Ty):Store×Int :=
 if v∈dz s [t]then (s,12)else
 if (s.aJ v).base=true/\(isArrow t).c=true then (s,14)else
 if s.BI (s.aJ v).home t=true then (s,13)else
 (((dz s [t]).foldl (qf (s.aJ v).home) s).mY v t,0)
def gu(s:Store)(a b:Ty):List aT×Int×Store :=
 if 200<sz s.w a 200\/200<sz s.w b 200 then ([],15,s)else
 if (s.w a).kind=1/\(s.w b).kind=1/\(s.w a).id=(s.w b).id then ([],0,s)else
 if s.iR (s.w a)=true then (if s.iR (s.w b)=true then ([],0,s.lu (s.w a) (s.w b))else ([],(s.jG (s.w a).id (s.w b)).2,(s.jG (s.w a).id (s.w b)).1))else
 if s.iR (s.w b)=true then ([],(s.jG (s.w b).id (s.w a)).2,(s.jG (s.w b).id (s.w a)).1)else
 if clash (s.w a) (s.w b)then ([],11,s)else
 (List.zipWith (fun x y=>(⟨x,y⟩:aT)) (s.w a).args (s.w b).args,0,s)
structure Tw(s p:Store):Prop where
 slots:p.slots=s.slots
 trail:p.trail.length<=s.trail.length
theorem Tw.refl(s:Store):Tw s s:=⟨rfl,Nat.le_refl _⟩
section
variable {s p:Store}
theorem Tw.slot? (h:Tw s p)(i:Int):p.slot? i=s.slot? i:=by unfold Store.slot?;rw[h.slots]
theorem Tw.aJ(h:Tw s p)(i:Int):p.aJ i=s.aJ i:=by unfold Store.aJ;rw[h.slot?]
theorem Tw.bound(h:Tw s p)(t:Ty):p.bound t=s.bound t:=by unfold Store.bound;rw[h.slot?]
theorem Tw.to(h:Tw s p)(t:Ty):p.to t=s.to t:=by unfold Store.to;rw[h.slot?]
theorem Tw.bG(h:Tw s p)(t:Ty):p.bG t=s.bG t:=by unfold Store.bG;rw[h.slot?]
theorem Tw.bX(h:Tw s p):∀ (n:Nat) (t:Ty),p.bX n t=s.bX n t:=by
 intro n
 induction n with
 |zero=>intro t;rfl
 | succ n ih =>
   intro t;unfold Store.bX;rw[h.bound,h.to,ih]
theorem Tw.w(h:Tw s p):p.w=s.w:=funext fun t=>by unfold Store.w;rw[h.slots];exact h.bX _ t
theorem Tw.w16(h:Tw s p):p.w16=s.w16:=funext fun t=>by unfold Store.w16;rw[h.slots];exact h.bX _ t
theorem Tw.pY(h:Tw s p):∀ (f:Nat) (t:Ty) (st:List Int×List Bool),J.pY p f t st=J.pY s f t st:=by
 intro f
 induction f with
 |zero=>intro t st;rfl
 | succ f ih =>
   intro t st;rw[J.pY,J.pY,h.bound,h.to,ih]
   grind
theorem Tw.dz(h:Tw s p)(l:List Ty):J.dz p l=J.dz s l:=by
 unfold J.dz;rw[h.slots];have e:(fun st x=>J.pY p 100000 x st)=(fun st x=>J.pY s 100000 x st):=funext fun st=>funext fun x=>h.pY _ x st
 rw[e]
theorem Tw.hiM(h:Tw s p)(hm:Int):∀ (f:Nat) (t:Ty) (sn:List Int),Store.hiM p hm f t sn=Store.hiM s hm f t sn:=by
 intro f
 induction f with
 |zero=>intro t sn;rfl
 | succ f ih =>
   intro t sn;have e:Store.hiM p hm f=Store.hiM s hm f:=funext fun t=>funext fun sn=>ih t sn
   rw[Store.hiM,Store.hiM,h.slot?,e]
theorem Tw.BI(h:Tw s p)(hm:Int)(t:Ty):p.BI hm t=s.BI hm t:=by
 unfold Store.BI;have e:Store.hiM p hm=Store.hiM s hm:=funext fun f=>funext fun t=>funext fun sn=>h.hiM hm f t sn
 rw[e]
theorem Tw.iW{n S:Nat}(h:Tw s p)(ht:bM n S s):bM n S p:=by
 refine⟨by rw[h.slots];exact ht.len,by rw[h.slots];exact ht.types,fun i hi=>?_⟩;have e:p.below=s.below:=funext fun u=>funext fun t=>by unfold Store.below;rw[h.bound,h.to]
 have:=ht.fin i hi;unfold Store.Fin at this ⊢
 grind
theorem Tw.ll(h:Tw s p):p.ll=s.ll:=by unfold Store.ll;rw[h.slots]
theorem ztz(h:Tw s p)(i:Int)(x:Slot):Tw (s.set i x).1 (p.set i x).1:=by
 unfold Store.set;rw[h.slot?]
 cases e:s.slot? i with
 |none=>exact h
 |some o=>exact⟨by simp[h.slots],by simpa using h.trail⟩
theorem znC{x y:Slot}(h1:x.bound=y.bound)(h2:x.home=y.home)(h3:x.base=y.base)(h4:x.type=y.type):x=y:=by
 cases x;cases y;simp_all
theorem La(h:Tw s p){i:Nat}(hi:i<s.slots.length){x:Slot}(ht:x.bound=(s.aJ (i:Int)).bound->x.type=(s.aJ (i:Int)).type):Tw (s.set (i:Int) x).1 (p.mF (i:Int) x):=by
 unfold mF;split
 . rename_i hh;rw[h.aJ]at hh;have e:=znC hh.1 hh.2.1 hh.2.2 (ht hh.1.symm).symm;rw[eX hi];refine⟨?_,by simp;have:=h.trail;omega⟩;show p.slots=s.slots.set i x;rw[h.slots,<- e,eD hi,List.set_getElem_self]
 . exact ztz h _ _
theorem Y6(h:Tw s p){i:Int}{x:Slot}(hx:x=s.aJ i):p.mF i x=p:=by
 unfold mF;rw[if_pos];rw[h.aJ,hx]
 grind
theorem JX{i j:Nat}(hij:i≠j)(hi:i<s.slots.length)(x:Slot):(s.set (i:Int) x).1.aJ (j:Int)=s.aJ (j:Int):=by
 unfold Store.aJ;rw[slot?_nat,slot?_nat,QZ hi hij]
theorem zbZ{i:Nat}(hi:i<s.slots.length)(x:Slot):(s.set (i:Int) x).1.slots.length=s.slots.length:=by rw[eX hi];simp
theorem UC(h:Tw s p){i:Nat}(hi:i<s.slots.length)(hb:(s.aJ (i:Int)).bound=false){t:Ty}:Tw (s.set (i:Int) { s.aJ (i:Int)with bound:=true,type:=t }).1 (p.mY (i:Int) t):=by
 unfold mY;rw[h.aJ]
 grind [La]
theorem sV{n S:Nat}(hs:bM n S s){i:Nat}(hi:i<n):(s.aJ (i:Int)).bound=s.bound (aM (i:Int)):=by
 have hil:i<s.slots.length:=by rw[hs.len];exact hi
 have e:=j6 (s:=s) (t:=aM (i:Int)) rfl (by show s.slot? (i:Int)=some s.slots[i];rw[slot?_nat];exact List.getElem?_eq_getElem hil);rw[eD hil,e]
theorem zot{n S:Nat}(hs:bM n S s)(h:Tw s p){i j:Nat}(hi:i<n)(hj:j<n)(hij:i≠j)(h1:s.bound (aM (i:Int))=false)(h2:s.bound (aM (j:Int))=false):Tw (s.join (i:Int) (j:Int)) (p.lu (aM (i:Int)) (aM (j:Int))):=by
 have key:∀ {lo hi:Nat},lo<n->hi<n->lo<hi->s.bound (aM (hi:Int))=false->∀ x y:Slot,x={ s.aJ (lo:Int)with home:=min (s.aJ (lo:Int)).home (s.aJ (hi:Int)).home,base:=(s.aJ (lo:Int)).base||(s.aJ (hi:Int)).base } ->
  y={ s.aJ (hi:Int)with bound:=true,type:=aM (lo:Int) }->Tw ((s.set (lo:Int) x).1.set (hi:Int) y).1 ((p.mF (lo:Int) (p.qj (lo:Int) (hi:Int))).mY (hi:Int) (aM (lo:Int))):=by
  intro lo hi hlo hhi hlt hb x y hx hy;have RN:lo<s.slots.length:=by rw[hs.len];exact hlo
  have zRB:hi<s.slots.length:=by rw[hs.len];exact hhi
  have ex:p.qj (lo:Int) (hi:Int)=x:=by rw[hx];unfold qj;rw[h.aJ,h.aJ]
  rw[ex];have t1:=La h (x:=x) RN (fun _=>by rw[hx]);have so:=JX (s:=s) (i:=lo) (j:=hi) (by omega) RN x
  grind [UC,aM,zbZ,sV]
 unfold Store.join lu;rw[if_neg (by omega)];unfold joinL xE;show Tw _ (if (j:Int)<(i:Int)then _ else _);split
 . rename_i hlt;have e1:min (i:Int) (j:Int)=(j:Int):=by omega
   have e2:max (i:Int) (j:Int)=(i:Int):=by omega
   rw[e1,e2];exact key hj hi (by omega) h1 _ _ rfl rfl
 . rename_i hlt;have e1:min (i:Int) (j:Int)=(i:Int):=by omega
   have e2:max (i:Int) (j:Int)=(j:Int):=by omega
   rw[e1,e2];exact key hi hj (by omega) h2 _ _ rfl rfl
theorem zuw{n S:Nat}(hs:bM n S s)(h:Tw s p)(home:Int){v:Int}(h0:0<=v)(hv:v<n)(hb:s.bound (aM v)=false):Tw (bf home s v) (qf home p v):=by
 obtain⟨i,rfl⟩:=Int.eq_ofNat_of_zero_le h0;have hil:i<s.slots.length:=by rw[hs.len];omega
 have hfree:p.iR (aM (i:Int))=true:=by
  unfold iR;rw[h.bG,show (aM (i:Int)).id=(i:Int) from rfl,h.aJ,sV hs (by omega),hb];unfold Store.bG;show (decide (1=1)&&(s.slot? (i:Int)).isSome&&!false)=true;rw[slot?_nat,List.getElem?_eq_getElem hil];rfl
 unfold qf bf;rw[if_pos hfree,h.aJ];by_cases hh:home<(s.aJ (i:Int)).home
 . rw[if_pos ⟨by omega,hh⟩];have e:min (s.aJ (i:Int)).home home=home:=by omega
   grind [La]
 . rw[if_neg fun hq=>hh hq.2];have e:min (s.aJ (i:Int)).home home=(s.aJ (i:Int)).home:=by omega
   rw[e,Y6 h rfl];exact h
theorem zor{n S:Nat}(home:Int):∀ (l:List Int) {s p:Store},bM n S s->Tw s p->(∀ v∈l,0<=v/\v<n/\s.bound (aM v)=false)->Tw (l.foldl (bf home) s) (l.foldl (qf home) p):=by
 intro l
 induction l with
 |nil=>intro s p _ h _;exact h
 | cons v l ih =>
   intro s p hs h hl;obtain⟨h0,h1,h2⟩:=hl v (List.mem_cons_self ..);have hsame:=(G7 (s:=s) home h0).1;rw[List.foldl_cons,List.foldl_cons];refine ih (hsame.iW hs) (zuw hs h home h0 h1 h2) fun w hw=>?_
   obtain⟨g0,g1,g2⟩:=hl w (List.mem_cons_of_mem _ hw);exact⟨g0,g1,by rw[hsame.bound];exact g2⟩
theorem RA(home:Int):∀ (l:List Int) (s:Store) {i:Nat},(∀ v∈l,0<=v)->(i:Int) ∉ l->(l.foldl (bf home) s).aJ (i:Int)=s.aJ (i:Int):=by
 intro l
 induction l with
 |nil=>intro s i _ _;rfl
 | cons v l ih =>
   grind [w,List.mem_cons_of_mem,bf,Int.eq_ofNat_of_zero_le,List.mem_cons_self,JX]
theorem zmW (s:Store):∀ (f:Nat) (t:Ty) (st:List Int×List Bool),(∀ v∈st.1,s.bound (aM v)=false)->∀ v∈(J.pY s f t st).1,s.bound (aM v)=false:=by
 intro f
 induction f with
 |zero=>intro t st h;exact h
 | succ f ih =>
   intro t st h;rw[J.pY];split
   . rename_i hk;split
     . grind
     . rename_i hb;split
       . exact h
       . intro v hv;rcases List.mem_append.1 hv with hv|hv
         . exact h v hv
         . rw[List.mem_singleton.1 hv,vZ (s:=s) (t:=t) (u:=aM t.id) (by rw[hk];rfl) rfl];simpa using hb
   . have key:∀ (l:List Ty) (st:List Int×List Bool),(∀ v∈st.1,s.bound (aM v)=false)->∀ v∈(l.foldl (fun st x=>J.pY s f x st) st).1,s.bound (aM v)=false:=by
      intro l
      induction l with
      |nil=>intro st h;exact h
      |cons x l ihl=>intro st h;exact ihl _ (ih x st h)
     exact key _ _ h
theorem zbb(s:Store)(t:Ty):∀ v∈J.dz s [t],s.bound (aM v)=false:=by
 unfold J.dz
 grind [zmW]
theorem Ym{n S:Nat}(hs:bM n S s)(hv:jW s)(h:Tw s p)(hS:1<=S)(hn:n*S+S<=90000){i:Nat}(hi:i<n)(h0:s.bound (aM (i:Int))=false){t:Ty}(ht:bT n S t)(hval:t.valid=true)(hz:∃ r,Rz s.w16 t r/\r.size<=200) :
 Tw (s.bindM (i:Int) t).1 (p.jG (i:Int) t).1/\(p.jG (i:Int) t).2=(s.bindM (i:Int) t).2:=by
 obtain⟨v1,v2,v3⟩:=hs.vars hS ht (by omega);obtain⟨r,hr,hrs⟩:=hz
 have hres:bK s.w16 t=(r,true):=by
  grind [bK,gp,full_of]
 obtain⟨f,hf⟩:=Mc (h:=(s.aJ (i:Int)).home) (hs.nJ t ht);obtain⟨q,hq⟩:=hf [];have zLi:=zu8 hs hv (Nat.le_refl S) ht hval hr hq;have hB:=O1 hq;have hil:i<s.slots.length:=by rw[hs.len];exact hi
 unfold jG bindM;rw[h.dz,h.aJ,h.BI,hres,hB];by_cases c1:(i:Int)∈J.dz s [t]
 . grind
 rw[if_neg c1,if_neg c1];by_cases c2:(isArrow t).c=true/\(s.aJ (i:Int)).base=true
 . grind
 rw[if_neg c2,if_neg (show ¬ ((s.aJ (i:Int)).base=true/\(isArrow t).c=true) from fun hh=>c2 ⟨hh.2,hh.1⟩)];by_cases c3:∃ x∈iD [r],(s.aJ (i:Int)).home<x.home
 . grind
 rw[if_neg c3,if_neg (show ¬ q.1=true from fun hh=>c3 (zLi.1 hh))]
 have c4:¬ ∃ v∈J.dz s [t],(s.slots.length:Int)<=v/\(s.aJ (i:Int)).home<0:=by
  rintro ⟨v,hv,hl,_⟩;have:=(v1 v hv).2;rw[hs.len]at hl;omega
 rw[if_neg c4];refine⟨?_,rfl⟩;have t1:=zor (s.aJ (i:Int)).home (J.dz s [t]) hs h fun v hv=>⟨(v1 v hv).1,(v1 v hv).2,zbb s t v hv⟩
 . have hs1:=pM (s.aJ (i:Int)).home (J.dz s [t]) s fun v hv=>(v1 v hv).1
   have hd:=RA (s.aJ (i:Int)).home (J.dz s [t]) s (fun v hv=>(v1 v hv).1) c1;generalize (J.dz s [t]).foldl (bf (s.aJ (i:Int)).home) s=s1 at t1 hs1 hd;have:=UC t1 (i:=i) (t:=t) (by rw[hs1.1.len];exact hil) (by rw[hd,sV hs hi];exact h0)
   grind
end
end Store
end Go.J
/- The program's unification in a store: the work list does what the recursion does. -/
namespace Go.J
open Enc (enc)
namespace Store
section
variable {n S:Nat}
structure SF(n S:Nat)(s:Store)(a b:Ty):Prop where
 iW:bM n S s
 val:jW s
 left:bT n S a
 right:bT n S b
 lv:a.valid=true
 rv:b.valid=true
theorem Fy{s:Store}(hs:bM n S s){x:Ty}(hx:bT n S x)(hk:x.kind=1):s.bG x=true:=by
 obtain⟨h0,h1⟩:=hx.vars x (.self hk);obtain⟨i,hi⟩:=Int.eq_ofNat_of_zero_le h0;have hil:i<s.slots.length:=by rw[hs.len];omega
 unfold Store.bG;rw[hi,slot?_nat,List.getElem?_eq_getElem hil,decide_eq_true hk];rfl
theorem UF{s p:Store}(hs:bM n S s)(h:Tw s p){x:Ty}(hx:bT n S x)(hb:s.bound x=false):p.iR x=s.bG x:=by
 unfold iR;rw[h.bG,h.aJ]
 cases hh:s.bG x with
 |false=>rfl
 | true =>
   obtain⟨i,hi,e1,zr0,b1,_⟩:=hs.slot hx hh hb;rw[zr0,sV hs hi,b1];rfl
end
end Store
end Go.J
