import Derived.Test.YtpcmebclpindjaaGreatJN
set_option linter.all false
noncomputable section
/- The reference's unification in a store: its model. -/
namespace Go.J
open Enc (enc)
namespace Store
def uL(rec:Store->Ty->Ty->Store×Int):List Ty->List Ty->Store->Store×Int
 |x::l,y::m,s=>if (rec s x y).2=0 then uL rec l m (rec s x y).1 else rec s x y
 |_,_,s=>(s,0)
def clash(x y:Ty):Prop:=x.kind≠y.kind\/x.name≠y.name\/x.id≠y.id\/x.home≠y.home\/x.args.length≠y.args.length
instance (x y:Ty):Decidable (clash x y):=by unfold clash;infer_instance
def zHe(rec:Store->Ty->Ty->Store×Int)(s:Store)(a b:Ty):Store×Int :=
 if 200<sz s.w16 a 200\/200<sz s.w16 b 200 then (s,15)
 else if s.isSlot (s.w16 a)=true then (if s.isSlot (s.w16 b)=true then (s.join (s.w16 a).id (s.w16 b).id,0)else s.bindM (s.w16 a).id (s.w16 b))
 else if s.isSlot (s.w16 b)=true then s.bindM (s.w16 b).id (s.w16 a)
 else if clash (s.w16 a) (s.w16 b)then (s,11)
 else uL rec (s.w16 a).args (s.w16 b).args s
def zmY:Nat->Store->Ty->Ty->Store×Int
 | 0,s,_,_=>(s,0)
 |f+1,s,a,b=>zHe (zmY f) s a b
def uOk(F:Store->Ty->Ty->Option (Store×Int))(rec:Store->Ty->Ty->Store×Int):List Ty->List Ty->Store->Prop
 |x::l,y::m,s=>F s x y=some (rec s x y)/\((rec s x y).2=0->uOk F rec l m (rec s x y).1)
 |_,_,_=>True
structure bindPre(s:Store)(t:Ty):Prop where
 vars:zpL s [t]
 pos:∀ x∈zjg s [t],0<=x
 trail:s.trail.length+(zjg s [t]).length<1000
 res:(zet s.w16 t).1.ok=true/\(zet s.w16 t).1.size<=10000
end Store
end Go.J
/- Stores without cycles. -/
namespace Go.J
open Enc (enc)
namespace Store
theorem zl7{s:Store}{t:Ty}(h:s.bound t=true):t.kind=1:=(zfV h).1
def below(s:Store)(u t:Ty):Prop:=(s.bound t=true/\u=s.to t)\/(s.bound t=false/\u∈t.args)
def Fin(s:Store)(t:Ty):Prop:=Acc s.below t
theorem Fin.to{s:Store}{t:Ty}(h:s.Fin t)(hb:s.bound t=true):s.Fin (s.to t):=Acc.inv h (.inl ⟨hb,rfl⟩)
theorem Fin.arg{s:Store}{t u:Ty}(h:s.Fin t)(hb:s.bound t=false)(hu:u∈t.args):s.Fin u:=Acc.inv h (.inr ⟨hb,hu⟩)
theorem Fin.ind{s:Store}{p:Ty->Prop}(hb:∀ t,s.bound t=true->p (s.to t)->p t)(hn:∀ t,s.bound t=false->(∀ u∈t.args,p u)->p t){t:Ty}(h:s.Fin t):p t:=by
 induction h with
 | intro t _ ih =>
   cases hh:s.bound t with
   |true=>exact hb t hh (ih _ (.inl ⟨hh,rfl⟩))
   |false=>exact hn t hh fun u hu=>ih u (.inr ⟨hh,hu⟩)
theorem Fin.mkb{s:Store}{t:Ty}(hb:s.bound t=true)(h:s.Fin (s.to t)):s.Fin t:=.intro t fun u hu=>by
 rcases hu with⟨_,rfl⟩|⟨h1,_⟩
 . exact h
 . rw[hb]at h1;cases h1
theorem Fin.mkn{s:Store}{t:Ty}(hb:s.bound t=false)(h:∀ u∈t.args,s.Fin u):s.Fin t:=.intro t fun u hu=>by
 rcases hu with⟨h1,_⟩|⟨_,h1⟩
 . rw[hb]at h1;cases h1
 . exact h u h1
inductive Reach (s:Store) (id:Int):Ty->Prop
 |here {t:Ty}:t.kind=1->t.id=id->Reach s id t
 |to {t:Ty}:s.bound t=true->Reach s id (s.to t)->Reach s id t
 |arg {t u:Ty}:s.bound t=false->u∈t.args->Reach s id u->Reach s id t
structure Upd(s s':Store)(id:Int)(t:Ty):Prop where
 other:∀ u:Ty,¬ (u.kind=1/\u.id=id)->s'.bound u=s.bound u/\(s.bound u=true->s'.to u=s.to u)
 self:∀ u:Ty,u.kind=1->u.id=id->s'.bound u=true/\s'.to u=t
theorem Upd.fin0{s s':Store}{id:Int}{t:Ty}(h:Upd s s' id t){u:Ty}(hu:s.Fin u):¬ Reach s id u->s'.Fin u:=by
 have:∀ u,s.Fin u->(¬ Reach s id u->s'.Fin u):=fun u hu=>by
  refine Fin.ind (p:=fun u=>¬ Reach s id u->s'.Fin u) (fun u hb ih hr=>?_) (fun u hb ih hr=>?_) hu
  . obtain⟨h1,h2⟩:=h.other u fun hh=>hr (.here hh.1 hh.2)
    refine Fin.mkb (h1.trans hb) ?_;rw[h2 hb];exact ih fun hh=>hr (.to hb hh)
  . obtain⟨h1,_⟩:=h.other u fun hh=>hr (.here hh.1 hh.2)
    exact Fin.mkn (h1.trans hb) fun x hx=>ih x hx fun hh=>hr (.arg hb hx hh)
 exact this u hu
theorem Upd.fin{s s':Store}{id:Int}{t:Ty}(h:Upd s s' id t)(ht:s.Fin t)(hr:¬ Reach s id t){u:Ty}(hu:s.Fin u):s'.Fin u:=by
 have ht':=h.fin0 ht hr;refine Fin.ind (p:=s'.Fin) (fun u hb ih=>?_) (fun u hb ih=>?_) hu
 . by_cases hi:u.kind=1/\u.id=id
   . obtain⟨h1,h2⟩:=h.self u hi.1 hi.2
     grind [Fin.mkb]
   . obtain⟨h1,h2⟩:=h.other u hi
     grind [Fin.mkb]
 . by_cases hi:u.kind=1/\u.id=id
   . obtain⟨h1,h2⟩:=h.self u hi.1 hi.2
     grind [Fin.mkb]
   . exact Fin.mkn ((h.other u hi).1.trans hb) ih
inductive Ends (s:Store):Ty->Nat->Prop
 |stop {t:Ty}:s.bound t=false->Ends s t 0
 |step {t:Ty} {d:Nat}:s.bound t=true->Ends s (s.to t) d->Ends s t (d+1)
theorem Ends.uniq{s:Store}{t:Ty}{d:Nat}(h:Ends s t d):∀ {e:Nat},Ends s t e->d=e:=by
 induction h with
 | stop hb =>
   intro e h2
   cases h2 with
   |stop=>rfl
   |step hb2 _=>rw[hb]at hb2;cases hb2
 | step hb _ ih =>
   intro e h2
   cases h2 with
   |stop hb2=>rw[hb]at hb2;cases hb2
   |step _ h3=>rw[ih h3]
theorem Fin.ends{s:Store}{t:Ty}(h:s.Fin t):∃ d,Ends s t d :=
 Fin.ind (p:=fun t=>∃ d,Ends s t d) (fun _ hb ⟨d,hd⟩=>⟨d+1,.step hb hd⟩) (fun _ hb _=>⟨0,.stop hb⟩) h
theorem zov{s:Store}{t u:Ty}(ht:s.bound t=true)(hk:u.kind=1)(hi:u.id=t.id):s.bound u=true/\s.to u=s.to t:=by
 obtain⟨h1,x,h2,h3⟩:=zfV ht;refine⟨?_,?_⟩
 . grind [zow]
 . unfold Store.to;rw[hi]
theorem Ends.id{s:Store}{t u:Ty}{d e:Nat}(ht:Ends s t (d+1))(hu:Ends s u (e+1))(hi:t.id=u.id):d=e:=by
 cases ht with
 | step hb h1 =>
   cases hu with
   | step hb2 h2 =>
     obtain⟨_,e1⟩:=zov hb (zl7 hb2) hi.symm;rw[e1]at h2;exact h1.uniq h2
theorem zAD:∀ (n:Nat) (l:List Nat),l.Nodup->(∀ x∈l,x<n)->l.length<=n:=by
 intro n
 induction n with
 | zero =>
   intro l _ h
   cases l with
   |nil=>exact Nat.le_refl _
   |cons x l=>exact absurd (h x (List.mem_cons_self ..)) (Nat.not_lt_zero _)
 | succ n ih =>
   intro l hn h
   have h1:=ih (l.erase n) (hn.erase n) fun x hx=>by
    grind
   grind
theorem Ends.ids{s:Store}{t:Ty}{d:Nat}(h:Ends s t d):∃ l:List Nat,l.length=d/\l.Nodup/\∀ x∈l,x<s.slots.length/\∃ u e,Ends s u (e+1)/\e<d/\u.id=(x:Int):=by
 induction h with
 |stop _=>exact⟨[],rfl,List.nodup_nil,fun x hx=>by cases hx⟩
 | @step t d hb h1 ih =>
   obtain⟨l,h2,h3,h4⟩:=ih;obtain⟨_,x,hx,_⟩:=zfV hb;obtain⟨i,hi,hil,_⟩:=slot?_some hx;refine⟨i::l,by simp[h2],List.nodup_cons.2 ⟨fun hm=>?_,h3⟩,fun y hy=>?_⟩
   . obtain⟨_,u,e,h5,h6,h7⟩:=h4 i hm;have:=Ends.id (.step hb h1) h5 (by rw[hi,h7]);omega
   . rcases List.mem_cons.1 hy with rfl|hy
     . exact⟨hil,t,d,.step hb h1,by omega,hi⟩
     grind
theorem Ends.le{s:Store}{t:Ty}{d:Nat}(h:Ends s t d):d<=s.slots.length:=by
 obtain⟨l,h1,h2,h3⟩:=h.ids;rw[<- h1];exact zAD _ l h2 fun x hx=>(h3 x hx).1
theorem Ends.walk {s:Store} {t:Ty} {d:Nat} (h:Ends s t d):∀ n,d<=n->s.walkN n t=s.walkN d t/\s.bound (s.walkN d t)=false:=by
 induction h with
 | @stop t hb =>
   intro n _;refine⟨?_,hb⟩
   cases n with
   |zero=>rfl
   |succ n=>show s.walkN (n+1) t=t;unfold Store.walkN;rw[hb];rfl
 | @step t d hb h1 ih =>
   intro n hn
   cases n with
   |zero=>omega
   | succ n =>
     have:=ih n (by omega)
     have e1:∀ m,s.walkN (m+1) t=s.walkN m (s.to t):=fun m=>by
      show (if s.bound t=true then _ else _)=_;rw[if_pos hb]
     grind
theorem Fin.walk{s:Store}{t:Ty}(h:s.Fin t):s.bound (s.w16 t)=false/\s.w t=s.w16 t:=by
 obtain⟨d,hd⟩:=h.ends;have h1:=hd.walk (s.slots.length+1) (by have:=hd.le;omega);have h2:=hd.walk s.slots.length hd.le
 simp_all [w16,w]
theorem Fin.walkN{s:Store}:∀ (n:Nat) {t:Ty},s.Fin t->s.Fin (s.walkN n t):=by
 intro n
 induction n with
 |zero=>intro t h;exact h
 | succ n ih =>
   intro t h;unfold Store.walkN;split
   . rename_i hb;exact ih (h.to hb)
   . exact h
end Store
end Go.J
/- The search for type variables finds all of them. -/
namespace Go.J
open Enc (enc)
inductive Occ:Ty->Ty->Prop
 |self {t:Ty}:t.kind=1->Occ t t
 |arg {t u x:Ty}:t.kind≠1->x∈t.args->Occ u x->Occ u t
theorem Occ.kind{u t:Ty}(h:Occ u t):u.kind=1:=by
 induction h with
 |self h=>exact h
 |arg _ _ _ ih=>exact ih
theorem Occ.var{u t:Ty}(h:Occ u t)(hk:t.kind=1):u=t:=by
 cases h with
 |self _=>rfl
 |arg h _ _=>exact absurd hk h
namespace Store
abbrev St:=List Int×List Bool
def Cov(s:Store)(st:St)(t:Ty):Prop:=∀ u,Occ u t->(s.bound u=true->st.2[u.id.toNat]?=some true)/\(s.bound u=false->u.id∈st.1)
def Inv(s:Store)(st:St)(G:List Nat):Prop:=∀ (i:Nat) (x:Slot),s.slots[i]?=some x->x.bound=true->st.2[i]?=some true->i ∉ G->s.Cov st x.type
structure Mono(st st':St):Prop where
 out:∀ v∈st.1,v∈st'.1
 done:∀ i:Nat,st.2[i]?=some true->st'.2[i]?=some true
 len:st'.2.length=st.2.length
theorem Mono.refl{st:St}:Mono st st:=⟨fun _ h=>h,fun _ h=>h,rfl⟩
theorem Mono.trans{a b c:St}(h:Mono a b)(k:Mono b c):Mono a c:=⟨fun v hv=>k.out v (h.out v hv),fun i hi=>k.done i (h.done i hi),k.len.trans h.len⟩
theorem Cov.mono{s:Store}{st st':St}{t:Ty}(h:s.Cov st t)(m:Mono st st'):s.Cov st' t:=fun u hu=>⟨fun hb=>m.done _ ((h u hu).1 hb),fun hb=>m.out _ ((h u hu).2 hb)⟩
theorem Inv.mono{s:Store}{st st':St}{G:List Nat}(h:s.Inv st G)(m:Mono st st')(hd:∀ i,st'.2[i]?=some true->i ∉ G->st.2[i]?=some true):s.Inv st' G :=
 fun i x hx hb hi hG=>(h i x hx hb (hd i hi hG) hG).mono m
structure VsR(s:Store)(P:Int->Prop)(G:List Nat)(st st':St):Prop where
 mono:Mono st st'
 inv:s.Inv st' G
 out:∀ v∈st'.1,v∈st.1\/P v
 und:J.und s.slots st'.2<=J.und s.slots st.2
theorem z3M{s:Store}{P:Int->Prop}{f:Nat}{G:List Nat}(ih:∀ (t:Ty) (st:St),(∀ u,Occ u t->P u.id)->t.size+J.und s.slots st.2<=f->st.2.length=s.slots.length->s.Inv st G->VsR s P G st (vsM s f t st)/\s.Cov (vsM s f t st) t) :
 ∀ (l:List Ty) (st:St),(∀ x∈l,∀ u,Occ u x->P u.id)->Ty.sizes l+J.und s.slots st.2<=f->st.2.length=s.slots.length->s.Inv st G ->
   VsR s P G st (l.foldl (fun st x=>vsM s f x st) st)/\∀ x∈l,s.Cov (l.foldl (fun st x=>vsM s f x st) st) x:=by
 intro l
 induction l with
 |nil=>intro st _ _ _ hi;exact⟨⟨.refl,hi,fun v hv=>.inl hv,Nat.le_refl _⟩,fun x hx=>by cases hx⟩
 | cons a l ihl =>
   intro st hP hf hl hi;simp only[Ty.sizes]at hf;obtain⟨h1,h2⟩:=ih a st (hP a (List.mem_cons_self ..)) (by omega) hl hi;have h1u:=h1.und;obtain⟨h3,h4⟩:=ihl (vsM s f a st) (fun x hx=>hP x (List.mem_cons_of_mem _ hx)) (by omega) (h1.mono.len.trans hl) h1.inv;rw[List.foldl_cons];refine⟨⟨h1.mono.trans h3.mono,h3.inv,fun v hv=>?_,Nat.le_trans h3.und h1.und⟩,fun x hx=>?_⟩
   . rcases h3.out v hv with h|h
     . exact h1.out v h
     . exact .inr h
   . rcases List.mem_cons.1 hx with rfl|hx
     . exact h2.mono h3.mono
     . exact h4 x hx
theorem z3L {s:Store} {P:Int->Prop} (hP:∀ x∈s.slots,x.bound=true->∀ u,Occ u x.type->P u.id):∀ (f:Nat) (G:List Nat) (t:Ty) (st:St),(∀ u,Occ u t->P u.id)->t.size+J.und s.slots st.2<=f->st.2.length=s.slots.length->s.Inv st G ->
 VsR s P G st (vsM s f t st)/\s.Cov (vsM s f t st) t:=by
 intro f
 induction f with
 |zero=>intro G t st _ hf;have:=Ty.size_pos t;omega
 | succ f ih =>
   intro G t st hPt hf hl hi;have hsz:=Ty.size_pos t;rw[vsM];split
   . rename_i hk;split
     . rename_i hb;obtain⟨_,i,x,hid,hil,hx,hxb,hto⟩:=bound_slot hb;have hidn:t.id.toNat=i:=by rw[hid];rfl
       rw[hidn,hto];split
       . rename_i hd;have h1:=zqa hx hd
         have m1:Mono st (st.1,st.2.set i true):=⟨fun _ h=>h,fun j hj=>by
          rw[List.getElem?_set];split
          . rename_i e;subst e;rw[if_pos (by rw[hl];exact hil)]
          . exact hj,by simp⟩
         have hi1:s.Inv (st.1,st.2.set i true) (i::G):=fun j y hy hyb hj hG=>by
          have hne:j≠i:=fun e=>hG (by simp[e])
          have hj':st.2[j]?=some true:=by
           grind
          exact(hi j y hy hyb hj' fun h=>hG (List.mem_cons_of_mem _ h)).mono m1
         obtain⟨r1,r2⟩:=ih (i::G) x.type (st.1,st.2.set i true) (hP x (List.mem_of_getElem? hx) hxb) (by simp only;omega) (by simp[hl]) hi1;have hdi:(vsM s f x.type (st.1,st.2.set i true)).2[i]?=some true:=r1.mono.done i (by simp[hl,hil]);refine⟨⟨m1.trans r1.mono,fun j y hy hyb hj hG=>?_,r1.out,by have:=r1.und;simp only at this;omega⟩,fun u hu=>?_⟩
         . by_cases e:j=i
           . grind
           . exact r1.inv j y hy hyb hj (by simp[e,hG])
         . rw[hu.var hk,hidn]
           grind
       . rename_i hd;refine⟨⟨.refl,hi,fun v hv=>.inl hv,Nat.le_refl _⟩,fun u hu=>?_⟩;rw[hu.var hk,hidn]
         simp_all
     . rename_i hb;have hb':s.bound t=false:=by cases h:s.bound t with|true=>exact absurd h hb|false=>rfl
       split
       . rename_i hm;refine⟨⟨.refl,hi,fun v hv=>.inl hv,Nat.le_refl _⟩,fun u hu=>?_⟩;rw[hu.var hk]
         grind
       . have m1:Mono st (st.1++[t.id],st.2):=⟨fun v hv=>List.mem_append_left _ hv,fun j hj=>hj,rfl⟩;refine⟨⟨m1,hi.mono m1 fun j hj _=>hj,fun v hv=>?_,Nat.le_refl _⟩,fun u hu=>?_⟩
         . rcases List.mem_append.1 hv with h|h
           . exact .inl h
           . rw[List.mem_singleton.1 h];exact .inr (hPt t (.self hk))
         . rw[hu.var hk]
           grind
   . rename_i hk;have hse:=Ty.size_eq t;obtain⟨h1,h2⟩:=z3M (fun t st=>ih G t st) t.args st (fun x hx u hu=>hPt u (.arg hk hx hu)) (by omega) hl hi;refine⟨h1,fun u hu=>?_⟩
     cases hu with
     |self h=>exact absurd h hk
     |arg _ hx hux=>exact h2 _ hx u hux
end Store
end Go.J
/- Stores that tapes make: binding and joining keep them. -/
namespace Go.J
open Enc (enc)
structure TyOk(n S:Nat)(t:Ty):Prop where
 ok:t.ok=true
 plain:t.vplain=true
 size:t.size<=S
 vars:∀ u,Occ u t->0<=u.id/\u.id<n
theorem TyOk.arg{n S:Nat}{t x:Ty}(h:TyOk n S t)(hx:x∈t.args):TyOk n S x:=by
 have hp:=vplains_iff.1 (zad h.plain) x hx;refine⟨Ty.ok_arg h.ok hx,hp,by have:=Ty.size_arg hx;have:=h.size;omega,fun u hu=>h.vars u (.arg (fun hk=>?_) hx hu)⟩;have:=zZ h.plain hk;rw[this]at hx;cases hx
theorem TyOk.noargs{n S:Nat}{t:Ty}(h:TyOk n S t)(hk:t.kind=1):t.args=[]:=by
 have:=zZ h.plain hk;rw[this];rfl
theorem TyOk.le{n S S':Nat}{t:Ty}(h:TyOk n S t)(hS:S<=S'):TyOk n S' t:=⟨h.ok,h.plain,Nat.le_trans h.size hS,h.vars⟩
theorem TyOk.var{n S i:Nat}(hi:i<n)(hS:1<=S):TyOk n S (za0 (i:Int)):=by
 refine⟨Ty.ok_iff.2 ⟨Nat.zero_le _,fun x hx=>by cases hx⟩,zc3 _,by show (za0 (i:Int)).size<=S;rw[Ty.size_eq];exact hS,fun u hu=>?_⟩;rw[hu.var rfl]
 simp_all [za0]
namespace Store
structure Tame(n S:Nat)(s:Store):Prop where
 len:s.slots.length=n
 types:∀ x∈s.slots,if x.bound=true then TyOk n S x.type else x.type=ty0
 fin:∀ i,i<n->s.Fin (za0 (i:Int))
def unb(s:Store):Nat:=s.slots.countP fun x=>!x.bound
section
variable {n S:Nat}{s:Store}
theorem Tame.to(h:Tame n S s){t:Ty}(hb:s.bound t=true):TyOk n S (s.to t):=by
 obtain⟨_,i,x,_,_,hx,hxb,hto⟩:=bound_slot hb;have:=h.types x (List.mem_of_getElem? hx)
 grind
theorem Tame.tysOk(h:Tame n S s)(hn:n<=1000):s.tysOk:=⟨by rw[h.len];exact hn,fun x hx=>by
 have:=h.types x hx;split at this
 . exact this.ok
 . rw[this];rfl⟩
theorem Tame.walkN(h:Tame n S s){S':Nat}(hS:S<=S'):∀ (k:Nat) {t:Ty},TyOk n S' t->TyOk n S' (s.walkN k t):=by
 intro k
 induction k with
 |zero=>intro t ht;exact ht
 | succ k ih =>
   intro t ht;unfold Store.walkN;split
   . rename_i hb;exact ih ((h.to hb).le hS)
   . exact ht
theorem z9P{l:List Slot}{b:Nat}(h:∀ x∈l,x.type.size<=b):∀ m:List Bool,J.und l m<=l.length*b:=by
 induction l with
 |nil=>intro m;simp[J.und]
 | cons x l ih =>
   intro m
   cases m with
   |nil=>simp[J.und]
   | cons c m =>
     have h1:=ih (fun x hx=>h x (List.mem_cons_of_mem _ hx)) m;have h2:=h x (List.mem_cons_self ..);simp only[J.und,List.length_cons,Nat.succ_mul];split<;>omega
theorem Tame.und(h:Tame n S s)(hS:1<=S)(m:List Bool):J.und s.slots m<=n*S:=by
 have:=z9P (l:=s.slots) (b:=S) (fun x hx=>by
  have:=h.types x hx;split at this
  . exact this.size
  . rw[this];exact hS) m
 rw[h.len]at this;exact this
theorem Tame.vars (h:Tame n S s) (hS:1<=S) {S':Nat} {t:Ty} (ht:TyOk n S' t) (hb:n*S+S'<=100000) :
 (∀ v∈zjg s [t],0<=v/\v<n)/\(zjg s [t]).length<=n*S+S'/\∀ id:Int,s.bound (za0 id)=false->s.Reach id t->id∈zjg s [t]:=by
 have hu:=h.und hS (List.replicate s.slots.length false);have hsz:=ht.size
 have key:=z3L (s:=s) (P:=fun v=>0<=v/\v<n) (fun x hx hxb u hu=>by
  have:=h.types x hx;rw[if_pos hxb]at this
  exact this.vars u hu) 100000 [] t (([]:List Int),List.replicate s.slots.length false) ht.vars (by simp only;omega) (by simp) (fun i x _ _ hi=>by
   simp only[List.getElem?_replicate]at hi
   split at hi<;>cases hi)
 obtain⟨r1,r2⟩:=key;have hlen:=(z9C s 100000 t (([]:List Int),List.replicate s.slots.length false)).2.2.2;unfold zjg;simp only[List.foldl_cons,List.foldl_nil];generalize vsM s 100000 t (([]:List Int),List.replicate s.slots.length false)=st at r1 r2 hlen;refine⟨fun v hv=>?_,?_,fun id hid hr=>?_⟩
 . rcases r1.out v hv with h|h
   . cases h
   . exact h
 . simp only[List.length_nil]at hlen;omega
 . have walk:∀ u,s.Reach id u->(∃ m,TyOk n m u)->s.Cov st u->id∈st.1:=by
    intro u hu
    induction hu with
    | here hk he =>
      intro _ hc;have:=(hc _ (.self hk)).2;rw[he]at this;refine this ?_
      cases hb:s.bound _ with
      |false=>rfl
      | true =>
        have:=(zov hb (u:=za0 id) rfl (by rw[he];rfl)).1;rw[hid]at this;cases this
    | to hb _ ih =>
      intro _ hc;have hk:=zl7 hb;have hd:=(hc _ (.self hk)).1 hb;obtain⟨_,i,x,hi,hil,hx,hxb,hto⟩:=bound_slot hb;refine ih ⟨S,h.to hb⟩ ?_;rw[hto];exact r1.inv i x hx hxb (by rw[hi]at hd;exact hd) (by simp)
    | arg hb hx _ ih =>
      intro hm hc;obtain⟨m,hm⟩:=hm
      have hk:¬ _:=fun hk=>by
       have:=hm.noargs hk;rw[this]at hx;cases hx
      exact ih ⟨m,hm.arg hx⟩ fun u hu=>hc u (.arg hk hx hu)
   exact walk t hr ⟨S',ht⟩ r2
end
end Store
end Go.J
/- Binding and joining keep stores tame. -/
namespace Go.J
open Enc (enc)
namespace Store
def bt(x:Slot):Bool×Ty:=(x.bound,x.type)
def SameBT(s s':Store):Prop:=s'.slots.map bt=s.slots.map bt
section
variable {s s':Store}
theorem SameBT.refl:SameBT s s:=rfl
theorem SameBT.trans{a b c:Store}(h:SameBT a b)(k:SameBT b c):SameBT a c:=Eq.trans k h
theorem SameBT.len(h:SameBT s s'):s'.slots.length=s.slots.length:=by
 have:=congrArg List.length h
 grind
theorem SameBT.at(h:SameBT s s')(i:Nat):(s'.slots[i]?).map bt=(s.slots[i]?).map bt:=by
 have:=congrArg (fun l=>l[i]?) h;simpa using this
theorem SameBT.slot(h:SameBT s s')(id:Int):(s'.slot? id).map bt=(s.slot? id).map bt:=by
 unfold slot?;split
 . exact h.at _
 . rfl
theorem SameBT.bound(h:SameBT s s')(u:Ty):s'.bound u=s.bound u:=by
 have h1:=h.slot u.id;unfold Store.bound;cases h2:s'.slot? u.id<;>cases h3:s.slot? u.id<;>rw[h2,h3]at h1
 . cases h1
 . cases h1
 . have:bt _=bt _:=Option.some.inj h1;unfold bt at this;rw[Prod.mk.injEq]at this;cases decide (u.kind=1)<;>simp[this.1]
theorem SameBT.to(h:SameBT s s')(u:Ty):s'.to u=s.to u:=by
 have h1:=h.slot u.id;unfold Store.to
 grind [bt,Option.some.inj,Prod.mk.injEq]
theorem SameBT.fin(h:SameBT s s'){u:Ty}(hu:s.Fin u):s'.Fin u:=by
 refine Store.Fin.ind (p:=s'.Fin) (fun t hb ih=>?_) (fun t hb ih=>?_) hu
 . exact .mkb ((h.bound t).trans hb) (by rw[h.to];exact ih)
 . exact .mkn ((h.bound t).trans hb) ih
theorem SameBT.mem(h:SameBT s s'){x:Slot}(hx:x∈s'.slots):∃ y∈s.slots,y.bound=x.bound/\y.type=x.type:=by
 have:bt x∈s.slots.map bt:=by rw[<- h];exact List.mem_map.2 ⟨x,hx,rfl⟩
 grind [bt,Prod.mk.injEq]
theorem SameBT.tame(h:SameBT s s'){n S:Nat}(ht:Tame n S s):Tame n S s':=by
 refine⟨h.len.trans ht.len,fun x hx=>?_,fun i hi=>h.fin (ht.fin i hi)⟩;obtain⟨y,hy,e1,e2⟩:=h.mem hx;have:=ht.types y hy
 grind
theorem SameBT.unb(h:SameBT s s'):s'.unb=s.unb:=by
 unfold Store.unb;have e:∀ l:List Slot,l.countP (fun x=>!x.bound)=(l.map bt).countP fun p=>!p.1:=fun l=>by rw[List.countP_map];rfl
 rw[e,e,h]
end
theorem zgw{s:Store}{i:Nat}{x:Slot}(hi:i<s.slots.length):s.set (i:Int) x=(⟨s.slots.set i x,s.trail++[⟨(i:Int),s.slots[i],false⟩]⟩,true):=by
 unfold Store.set;rw[zko,List.getElem?_eq_getElem hi];rfl
structure Step(n S:Nat)(s s':Store):Prop where
 tame:Tame n S s'
 trail:s'.trail.length+(n*S+S+2)*s'.unb<=s.trail.length+(n*S+S+2)*s.unb
 less:s'=s\/s'.unb<s.unb
theorem Step.refl{n S:Nat}{s:Store}(h:Tame n S s):Step n S s s:=⟨h,Nat.le_refl _,.inl rfl⟩
theorem Step.trans{n S:Nat}{a b c:Store}(h:Step n S a b)(k:Step n S b c):Step n S a c:=by
 refine⟨k.tame,Nat.le_trans k.trail h.trail,?_⟩;rcases h.less with rfl|h1
 . exact k.less
 . rcases k.less with rfl|h2
   . exact .inr h1
   . exact .inr (Nat.lt_trans h2 h1)
end Store
end Go.J
/- The reference's unification comes to an end,and keeps stores tame. -/
namespace Go.J
open Enc (enc)
theorem z4m {w:Ty->Ty} (hw:∀ t,t.ok=true->(w t).ok=true):∀ (f:Nat) (t r:Ty),znm w f t=some r->t.ok=true->r.ok=true:=by
 intro f
 induction f with
 |zero=>intro t r h;cases h
 | succ f ih =>
   intro t r h ht;rw[znm]at h;split at h
   . rename_i l hl;cases h;have h1:=Ty.ok_iff.1 (hw t ht)
     have key:∀ (a m:List Ty),zgJ (znm w f) a=some m->(∀ x∈a,x.ok=true)->m.length=a.length/\∀ x∈m,x.ok=true:=by
      intro a
      induction a with
      |nil=>intro m h _;cases h;exact⟨rfl,fun x hx=>by cases hx⟩
      | cons x a iha =>
        intro m hm hx;unfold zgJ at hm
        grind
     obtain⟨h5,h6⟩:=key _ _ hl h1.2;exact Ty.ok_iff.2 ⟨by rw[Ty.args_mk,h5];exact h1.1,h6⟩
   . cases h
namespace Store
theorem zoH{s:Store}(hs:s.tysOk){t:Ty}(ht:t.ok=true):(zet s.w16 t).1.ok=true/\(zet s.w16 t).1.size<=10000:=by
 unfold zet;split
 . rename_i h;obtain⟨r,⟨f,hr⟩,hsz⟩:=sz_fits.1 h;have hr':Rz s.w16 t r:=⟨f,hr⟩;simp only[full_of hr'];exact⟨z4m (fun t ht=>zvW hs _ ht) f t r hr ht,by omega⟩
 . exact⟨rfl,by decide⟩
def room(n S:Nat)(s:Store):Nat:=s.trail.length+(n*S+S+2)*s.unb
section
variable {n S:Nat}{s:Store}
theorem Tame.bindPre(h:Tame n S s)(hS:1<=S)(hn:n*S+S<=90000)(hn2:n<=1000){t:Ty}(ht:TyOk n S t)(hu:1<=s.unb)(hr:room n S s<=990):s.bindPre t:=by
 obtain⟨v1,v2,_⟩:=h.vars hS ht (by omega);have h1:=h.und hS (List.replicate s.slots.length false);have h2:=ht.size;refine⟨⟨h.tysOk hn2,Ty.oks_iff.2 (by simp[ht.ok]),by simp,by simp only[Ty.sizes];omega⟩,fun x hx=>(v1 x hx).1,?_,zoH (h.tysOk hn2) ht.ok⟩;unfold room at hr;have h3:(n*S+S+2)*1<=(n*S+S+2)*s.unb:=Nat.mul_le_mul_left _ hu;omega
theorem Tame.slot(h:Tame n S s){x:Ty}(hx:TyOk n S x)(hs:s.isSlot x=true)(hb:s.bound x=false):∃ i:Nat,i<n/\x=za0 (i:Int)/\x.id=(i:Int)/\s.bound (za0 (i:Int))=false/\1<=s.unb:=by
 unfold isSlot at hs;simp only[Bool.and_eq_true,decide_eq_true_eq]at hs;obtain⟨h0,h1⟩:=hx.vars x (.self hs.1);obtain⟨i,hi⟩:=Int.eq_ofNat_of_zero_le h0;have e:=zZ hx.plain hs.1;rw[hi]at e;refine⟨i,by omega,e,hi,by rw[<- e];exact hb,?_⟩;have hil:i<s.slots.length:=by rw[h.len];omega
 have e2:=zow (s:=s) (t:=x) hs.1 (by rw[hi,zko];exact List.getElem?_eq_getElem hil);rw[hb]at e2;unfold unb
 grind
def need(s:Store)(a:Ty):Nat:=s.unb*202+sz s.w16 a 200
structure UPre(S:Nat)(s:Store)(a b:Ty):Prop where
 tame:Tame s.slots.length S s
 left:TyOk s.slots.length S a
 right:TyOk s.slots.length S b
 room:Store.room s.slots.length S s<=990
open Classical in
def uF(S d:Nat)(s:Store)(a b:Ty):Option (Store×Int):=if s.slots.length*S+S<=90000/\s.slots.length<=1000/\UPre S s a b/\need s a<d then some (zmY d s a b)else none
theorem Step.room{s':Store}(h:Step n S s s'):Store.room n S s'<=Store.room n S s:=h.trail
structure URun(S d:Nat)(s:Store)(a b:Ty):Prop where
 tys:s.tysOk
 trail:s.trail.length<=990
 left:s.isSlot (s.w16 a)=true->s.isSlot (s.w16 b)=false->s.bindPre (s.w16 b)
 right:s.isSlot (s.w16 b)=true->s.isSlot (s.w16 a)=false->s.bindPre (s.w16 a)
 calls:¬ (200<sz s.w16 a 200\/200<sz s.w16 b 200)->uOk (uF S d) (zmY d) (s.w16 a).args (s.w16 b).args s
end
end Store
end Go.J
/- Stores that tapes make: fresh slots,then equations. -/
namespace Go.J
open Enc (enc)
namespace Store
def zHd(s:Store)(a b:Ty):Store×Int:=zmY 300000 s a b
structure UAll(S:Nat)(s:Store)(a b:Ty):Prop where
 big:s.slots.length*S+S<=90000
 len:s.slots.length<=1000
 pre:UPre S s a b
theorem z4N{s:Store}(h:s.slots.length<=1000)(a:Ty):need s a<300000:=by
 have h1:s.unb<=s.slots.length:=List.countP_le_length
 grind [zHi,w,Nat.mul_le_mul_right,need]
theorem UAll.run{S:Nat}{s:Store}{a b:Ty}(h:UAll S s a b):uF S 300000 s a b=some (zHd s a b):=if_pos ⟨h.big,h.len,h.pre,z4N h.len a⟩
def Free(n:Nat)(s:Store):Prop:=s.slots.length=n/\s.trail.length=n/\∀ x∈s.slots,x.bound=false/\x.type=ty0
theorem Free.fresh{n:Nat}{s:Store}(h:Free n s)(home:Int)(base:Bool):Free (n+1) (s.fresh home base).1:=by
 obtain⟨h1,h2,h3⟩:=h;refine⟨by simp[Store.fresh,h1],by simp[Store.fresh,h2],fun x hx=>?_⟩;simp only[Store.fresh,List.mem_append,List.mem_singleton]at hx
 grind
theorem Free.tame{n S:Nat}{s:Store}(h:Free n s):Tame n S s:=by
 obtain⟨h1,h2,h3⟩:=h;refine⟨h1,fun x hx=>by rw[(h3 x hx).1];exact(h3 x hx).2,fun i hi=>Fin.mkn ?_ fun u hu=>by cases hu⟩
 cases hb:s.bound (za0 (i:Int))with
 |false=>rfl
 | true =>
   obtain⟨_,j,x,_,_,hx,hxb,_⟩:=bound_slot hb
   grind
theorem Free.room{n S:Nat}{s:Store}(h:Free n s):room n S s<=n+(n*S+S+2)*n:=by
 unfold Store.room;have h1:s.unb<=s.slots.length:=List.countP_le_length;rw[h.1]at h1;have:=Nat.mul_le_mul_left (n*S+S+2) h1;rw[h.2.1];omega
def Leaf(n:Nat)(u:Ty):Prop:=(∃ i:Nat,i<n/\u=za0 (i:Int))\/(u.kind≠1/\u.args=[]/\u.vplain=true)
theorem Leaf.occ{n:Nat}{x:Ty}(h:Leaf n x){u:Ty}(hu:Occ u x):0<=u.id/\u.id<n:=by
 rcases h with⟨i,hi,rfl⟩|⟨hk,ha,_⟩
 . rw[hu.var rfl];exact⟨by simp[za0],by simp[za0];omega⟩
 . cases hu with
   |self hk'=>exact absurd hk' hk
   |arg _ hx _=>rw[ha]at hx;cases hx
end Store
end Go.J
/- Types in slots and in trails stay well-formed. -/
namespace Go.J
open Enc (enc)
namespace Store
structure AllOk(s:Store):Prop where
 len:s.slots.length<=1000
 tys:∀ x∈s.slots,x.type.ok=true
 olds:∀ x∈s.trail,x.old.type.ok=true
theorem AllOk.tysOk{s:Store}(h:AllOk s):s.tysOk:=⟨h.len,h.tys⟩
theorem AllOk.set{s:Store}(h:AllOk s)(id:Int){x:Slot}(hx:x.type.ok=true):AllOk (s.set id x).1:=by
 unfold Store.set;split
 . rename_i old ho;obtain⟨i,_,hi,he⟩:=slot?_some ho;refine⟨by simp[h.len],fun y hy=>?_,fun y hy=>?_⟩
   . rcases List.mem_or_eq_of_mem_set hy with hy|rfl
     . exact h.tys y hy
     . exact hx
   . simp only[List.mem_append,List.mem_singleton]at hy;rcases hy with hy|rfl
     . exact h.olds y hy
     . exact h.tys _ (List.mem_of_getElem? he)
 . exact h
theorem zne{s:Store}(h:AllOk s)(id:Int):(s.slotD id).type.ok=true:=by
 unfold slotD
 cases ho:s.slot? id with
 |none=>rfl
 | some x =>
   obtain⟨i,_,hi,he⟩:=slot?_some ho;exact h.tys _ (List.mem_of_getElem? he)
theorem AllOk.fresh{s:Store}(h:AllOk s)(hl:s.slots.length<1000)(home:Int)(base:Bool):AllOk (s.fresh home base).1:=by
 refine⟨by simp[Store.fresh];omega,fun y hy=>?_,fun y hy=>?_⟩
 . simp only[Store.fresh,List.mem_append,List.mem_singleton]at hy;rcases hy with hy|rfl
   . exact h.tys y hy
   . rfl
 . simp only[Store.fresh,List.mem_append,List.mem_singleton]at hy;rcases hy with hy|rfl
   . exact h.olds y hy
   . rfl
theorem AllOk.lower{s:Store}(h:AllOk s)(home v:Int):AllOk (zdw home s v):=by
 unfold zdw;split
 . exact h.set _ (zne h v)
 . exact h
theorem AllOk.lowers(home:Int):∀ (l:List Int) {s:Store},AllOk s->AllOk (l.foldl (zdw home) s):=by
 intro l
 induction l with
 |nil=>intro s h;exact h
 |cons v l ih=>intro s h;exact ih (h.lower home v)
theorem AllOk.join{s:Store}(h:AllOk s)(i k:Int):AllOk (s.join i k):=by
 unfold Store.join;split
 . exact h
 . exact(h.set _ (x:=s.joinL i k) (zne h _)).set _ (x:=s.joinH i k) rfl
theorem AllOk.bind{s:Store}(h:AllOk s)(id:Int){t:Ty}(ht:t.ok=true):AllOk (s.bindM id t).1:=by
 unfold bindM;split
 . exact h
 split
 . exact h
 split
 . exact h
 split
 . exact h
 exact(AllOk.lowers _ _ h).set _ ht
end Store
end Go.J
/- Stores that were made of others,step by step: rolling back. -/
namespace Go.J
open Enc (enc)
namespace Store
inductive Ext:Store->Store->Prop
 |refl (a:Store):Ext a a
 |fresh {a b:Store} (h:Int) (g:Bool):Ext a b->Ext a (b.fresh h g).1
 |set {a b:Store} (i:Nat) (x:Slot):Ext a b->i<b.slots.length->Ext a (b.set (i:Int) x).1
theorem Ext.trans{a b c:Store}(h:Ext a b)(k:Ext b c):Ext a c:=by
 induction k with
 |refl=>exact h
 |fresh x g _ ih=>exact .fresh x g ih
 |set i x _ hi ih=>exact .set i x ih hi
theorem Ext.grow{a b:Store}(h:Ext a b):a.slots.length<=b.slots.length/\∃ l,b.trail=a.trail++l:=by
 induction h with
 |refl=>exact⟨Nat.le_refl _,[],by simp⟩
 | @fresh b x g _ ih =>
   obtain⟨h1,l,h2⟩:=ih;exact⟨by simp[Store.fresh];omega,l++[⟨(b.slots.length:Int),z4f,true⟩],by simp[Store.fresh,h2]⟩
 | @set b i x _ hi ih =>
   grind [zgw]
theorem Ext.len{a b:Store}(h:Ext a b):a.trail.length<=b.trail.length:=by
 obtain⟨l,e⟩:=h.grow.2;rw[e];simp
theorem Ext.at{a b:Store}(h:Ext a b):∀ m,a.trail.length<=m->m<=b.trail.length->∃ c,Ext a c/\Ext c b/\c.trail.length=m:=by
 induction h with
 |refl=>exact fun m h1 h2=>⟨_,.refl _,.refl _,by omega⟩
 | @fresh b x g h ih =>
   intro m h1 h2;by_cases h3:m<=b.trail.length
   . obtain⟨c,c1,c2,c3⟩:=ih m h1 h3;exact⟨c,c1,.fresh x g c2,c3⟩
   . exact⟨_,.fresh x g h,.refl _,by simp only[Store.fresh,List.length_append,List.length_singleton]at h2 ⊢;omega⟩
 | @set b i x h hi ih =>
   intro m h1 h2;by_cases h3:m<=b.trail.length
   . obtain⟨c,c1,c2,c3⟩:=ih m h1 h3;exact⟨c,c1,.set i x c2 hi,c3⟩
   . refine⟨_,.set i x h hi,.refl _,?_⟩;rw[zgw hi]at h2 ⊢
     grind
theorem Ext.ids{a b:Store}(h:Ext a b)(ha:∀ c∈a.trail,0<=c.id):∀ c∈b.trail,0<=c.id:=by
 induction h with
 |refl=>exact ha
 | fresh x g _ ih =>
   intro c hc;simp only[Store.fresh,List.mem_append,List.mem_singleton]at hc
   grind
 | set i x _ hi ih =>
   intro c hc;rw[zgw hi]at hc
   grind
end Store
end Go.J
