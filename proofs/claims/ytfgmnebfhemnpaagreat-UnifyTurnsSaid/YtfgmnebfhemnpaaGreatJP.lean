import Derived.Test.YtfgmnebfhemnpaaGreatJN
set_option linter.all false
noncomputable section
/- The reference's unification in a store: its model. -/
namespace Go.J
open Enc (enc)
namespace Store
def uL(rec:Store->Ty->Ty->Store×Int):List Ty->List Ty->Store->Store×Int
 |x::l,y::m,s=>if (rec s x y).2=0 then uL rec l m (rec s x y).1 else rec s x y
 |_,_,s=>(s,0)
def clash(x y:Ty):Prop:=x.kind≠y.kind\/x.name≠y.name\/x.id≠y.id\/x.home≠y.home\/x.args.length≠y.args.length
instance (x y:Ty):Decidable (clash x y):=by unfold clash;infer_instance
def uStep(rec:Store->Ty->Ty->Store×Int)(s:Store)(a b:Ty):Store×Int :=
 if 200<sz s.w16 a 200\/200<sz s.w16 b 200 then (s,15)
 else if s.isSlot (s.w16 a)=true then (if s.isSlot (s.w16 b)=true then (s.join (s.w16 a).id (s.w16 b).id,0)else s.bindM (s.w16 a).id (s.w16 b))
 else if s.isSlot (s.w16 b)=true then s.bindM (s.w16 b).id (s.w16 a)
 else if clash (s.w16 a) (s.w16 b)then (s,11)
 else uL rec (s.w16 a).args (s.w16 b).args s
def zaj:Nat->Store->Ty->Ty->Store×Int
 | 0,s,_,_=>(s,0)
 |f+1,s,a,b=>uStep (zaj f) s a b
def uOk(F:Store->Ty->Ty->Option (Store×Int))(rec:Store->Ty->Ty->Store×Int):List Ty->List Ty->Store->Prop
 |x::l,y::m,s=>F s x y=some (rec s x y)/\((rec s x y).2=0->uOk F rec l m (rec s x y).1)
 |_,_,_=>True
structure bindPre(s:Store)(t:Ty):Prop where
 vars:zbw s [t]
 pos:∀ x∈varsS s [t],0<=x
 trail:s.trail.length+(varsS s [t]).length<1000
 res:(zT s.w16 t).1.ok=true/\(zT s.w16 t).1.size<=10000
open Classical in
def bindF(s:Store)(id:Int)(t:Ty):Option (Store×Int):=if s.tysOk/\t.ok=true/\s.bindPre t/\(s.slot? id).isSome=true then some (s.bindM id t)else none
theorem isSlot_some{s:Store}{t:Ty}(h:s.isSlot t=true):(s.slot? t.id).isSome=true:=by
 unfold isSlot at h;rw[Bool.and_eq_true]at h;exact h.2
end Store
end Go.J
/- Stores without cycles. -/
namespace Go.J
open Enc (enc)
namespace Store
theorem zcr{s:Store}{t:Ty}(h:s.bound t=true):t.kind=1:=(bound_true h).1
def below(s:Store)(u t:Ty):Prop:=(s.bound t=true/\u=s.to t)\/(s.bound t=false/\u∈t.args)
def Fin(s:Store)(t:Ty):Prop:=Acc s.below t
theorem Fin.to{s:Store}{t:Ty}(h:s.Fin t)(hb:s.bound t=true):s.Fin (s.to t):=Acc.inv h (.inl ⟨hb,rfl⟩)
theorem Fin.arg{s:Store}{t u:Ty}(h:s.Fin t)(hb:s.bound t=false)(hu:u∈t.args):s.Fin u:=Acc.inv h (.inr ⟨hb,hu⟩)
theorem Fin.ind{s:Store}{p:Ty->Prop}(hb:∀ t,s.bound t=true->p (s.to t)->p t)(hn:∀ t,s.bound t=false->(∀ u∈t.args,p u)->p t){t:Ty}(h:s.Fin t):p t:=by
 induction h with
 | intro t _ ih =>
   cases hh:s.bound t with
   |true=>exact hb t hh (ih _ (.inl ⟨hh,rfl⟩))
   |false=>exact hn t hh fun u hu=>ih u (.inr ⟨hh,hu⟩)
theorem Fin.mkb{s:Store}{t:Ty}(hb:s.bound t=true)(h:s.Fin (s.to t)):s.Fin t:=.intro t fun u hu=>by
 rcases hu with⟨_,rfl⟩|⟨h1,_⟩
 . exact h
 . rw[hb]at h1;cases h1
theorem Fin.mkn{s:Store}{t:Ty}(hb:s.bound t=false)(h:∀ u∈t.args,s.Fin u):s.Fin t:=.intro t fun u hu=>by
 rcases hu with⟨h1,_⟩|⟨_,h1⟩
 . rw[hb]at h1;cases h1
 . exact h u h1
inductive Reach (s:Store) (id:Int):Ty->Prop
 |here {t:Ty}:t.kind=1->t.id=id->Reach s id t
 |to {t:Ty}:s.bound t=true->Reach s id (s.to t)->Reach s id t
 |arg {t u:Ty}:s.bound t=false->u∈t.args->Reach s id u->Reach s id t
structure Upd(s s':Store)(id:Int)(t:Ty):Prop where
 other:∀ u:Ty,¬ (u.kind=1/\u.id=id)->s'.bound u=s.bound u/\(s.bound u=true->s'.to u=s.to u)
 self:∀ u:Ty,u.kind=1->u.id=id->s'.bound u=true/\s'.to u=t
theorem Upd.fin0{s s':Store}{id:Int}{t:Ty}(h:Upd s s' id t){u:Ty}(hu:s.Fin u):¬ Reach s id u->s'.Fin u:=by
 have:∀ u,s.Fin u->(¬ Reach s id u->s'.Fin u):=fun u hu=>by
  refine Fin.ind (p:=fun u=>¬ Reach s id u->s'.Fin u) (fun u hb ih hr=>?_) (fun u hb ih hr=>?_) hu
  . obtain⟨h1,h2⟩:=h.other u fun hh=>hr (.here hh.1 hh.2)
    refine Fin.mkb (h1.trans hb) ?_;rw[h2 hb];exact ih fun hh=>hr (.to hb hh)
  . obtain⟨h1,_⟩:=h.other u fun hh=>hr (.here hh.1 hh.2)
    exact Fin.mkn (h1.trans hb) fun x hx=>ih x hx fun hh=>hr (.arg hb hx hh)
 exact this u hu
theorem Upd.fin{s s':Store}{id:Int}{t:Ty}(h:Upd s s' id t)(ht:s.Fin t)(hr:¬ Reach s id t){u:Ty}(hu:s.Fin u):s'.Fin u:=by
 have ht':=h.fin0 ht hr;refine Fin.ind (p:=s'.Fin) (fun u hb ih=>?_) (fun u hb ih=>?_) hu
 . by_cases hi:u.kind=1/\u.id=id
   . obtain⟨h1,h2⟩:=h.self u hi.1 hi.2;exact Fin.mkb h1 (by rw[h2];exact ht')
   . obtain⟨h1,h2⟩:=h.other u hi;exact Fin.mkb (h1.trans hb) (by rw[h2 hb];exact ih)
 . by_cases hi:u.kind=1/\u.id=id
   . obtain⟨h1,h2⟩:=h.self u hi.1 hi.2;exact Fin.mkb h1 (by rw[h2];exact ht')
   . exact Fin.mkn ((h.other u hi).1.trans hb) ih
inductive Ends (s:Store):Ty->Nat->Prop
 |stop {t:Ty}:s.bound t=false->Ends s t 0
 |step {t:Ty} {d:Nat}:s.bound t=true->Ends s (s.to t) d->Ends s t (d+1)
theorem Ends.uniq{s:Store}{t:Ty}{d:Nat}(h:Ends s t d):∀ {e:Nat},Ends s t e->d=e:=by
 induction h with
 | stop hb =>
   intro e h2
   cases h2 with
   |stop=>rfl
   |step hb2 _=>rw[hb]at hb2;cases hb2
 | step hb _ ih =>
   intro e h2
   cases h2 with
   |stop hb2=>rw[hb]at hb2;cases hb2
   |step _ h3=>rw[ih h3]
theorem Fin.ends{s:Store}{t:Ty}(h:s.Fin t):∃ d,Ends s t d :=
 Fin.ind (p:=fun t=>∃ d,Ends s t d) (fun _ hb ⟨d,hd⟩=>⟨d+1,.step hb hd⟩) (fun _ hb _=>⟨0,.stop hb⟩) h
theorem zkq{s:Store}{t u:Ty}(ht:s.bound t=true)(hk:u.kind=1)(hi:u.id=t.id):s.bound u=true/\s.to u=s.to t:=by
 obtain⟨h1,x,h2,h3⟩:=bound_true ht;refine⟨?_,?_⟩
 . rw[bound_eq hk (by rw[hi];exact h2)];exact h3
 . unfold Store.to;rw[hi]
theorem Ends.id{s:Store}{t u:Ty}{d e:Nat}(ht:Ends s t (d+1))(hu:Ends s u (e+1))(hi:t.id=u.id):d=e:=by
 cases ht with
 | step hb h1 =>
   cases hu with
   | step hb2 h2 =>
     obtain⟨_,e1⟩:=zkq hb (zcr hb2) hi.symm;rw[e1]at h2;exact h1.uniq h2
theorem zEc:∀ (n:Nat) (l:List Nat),l.Nodup->(∀ x∈l,x<n)->l.length<=n:=by
 intro n
 induction n with
 | zero =>
   intro l _ h
   cases l with
   |nil=>exact Nat.le_refl _
   |cons x l=>exact absurd (h x (List.mem_cons_self ..)) (Nat.not_lt_zero _)
 | succ n ih =>
   intro l hn h
   have h1:=ih (l.erase n) (hn.erase n) fun x hx=>by
    have h2:=h x (List.mem_of_mem_erase hx)
    have h3:x≠n:=fun e=>by
     subst e;exact(List.Nodup.mem_erase_iff hn).1 hx |>.1 rfl
    omega
   have h2:l.length<=(l.erase n).length+1:=by
    rw[List.length_erase];split<;>omega
   omega
theorem Ends.ids {s:Store} {t:Ty} {d:Nat} (h:Ends s t d):∃ l:List Nat,l.length=d/\l.Nodup/\∀ x∈l,x<s.slots.length/\∃ u e,Ends s u (e+1)/\e<d/\u.id=(x:Int):=by
 induction h with
 |stop _=>exact⟨[],rfl,List.nodup_nil,fun x hx=>by cases hx⟩
 | @step t d hb h1 ih =>
   obtain⟨l,h2,h3,h4⟩:=ih;obtain⟨_,x,hx,_⟩:=bound_true hb;obtain⟨i,hi,hil,_⟩:=slot?_some hx;refine⟨i::l,by simp[h2],List.nodup_cons.2 ⟨fun hm=>?_,h3⟩,fun y hy=>?_⟩
   . obtain⟨_,u,e,h5,h6,h7⟩:=h4 i hm;have:=Ends.id (.step hb h1) h5 (by rw[hi,h7]);omega
   . rcases List.mem_cons.1 hy with rfl|hy
     . exact⟨hil,t,d,.step hb h1,by omega,hi⟩
     . obtain⟨h5,u,e,h6,h7,h8⟩:=h4 y hy;exact⟨h5,u,e,h6,by omega,h8⟩
theorem Ends.le{s:Store}{t:Ty}{d:Nat}(h:Ends s t d):d<=s.slots.length:=by
 obtain⟨l,h1,h2,h3⟩:=h.ids;rw[<- h1];exact zEc _ l h2 fun x hx=>(h3 x hx).1
theorem Ends.walk {s:Store} {t:Ty} {d:Nat} (h:Ends s t d):∀ n,d<=n->s.walkN n t=s.walkN d t/\s.bound (s.walkN d t)=false:=by
 induction h with
 | @stop t hb =>
   intro n _;refine⟨?_,hb⟩
   cases n with
   |zero=>rfl
   |succ n=>show s.walkN (n+1) t=t;unfold Store.walkN;rw[hb];rfl
 | @step t d hb h1 ih =>
   intro n hn
   cases n with
   |zero=>omega
   | succ n =>
     have:=ih n (by omega)
     have e1:∀ m,s.walkN (m+1) t=s.walkN m (s.to t):=fun m=>by
      show (if s.bound t=true then _ else _)=_;rw[if_pos hb]
     rw[e1,e1];exact this
theorem Fin.walk{s:Store}{t:Ty}(h:s.Fin t):s.bound (s.w16 t)=false/\s.w t=s.w16 t:=by
 obtain⟨d,hd⟩:=h.ends;have h1:=hd.walk (s.slots.length+1) (by have:=hd.le;omega);have h2:=hd.walk s.slots.length hd.le;exact⟨by unfold w16;rw[h1.1];exact h1.2,by unfold w w16;rw[h1.1,h2.1]⟩
theorem Fin.walkN{s:Store}:∀ (n:Nat) {t:Ty},s.Fin t->s.Fin (s.walkN n t):=by
 intro n
 induction n with
 |zero=>intro t h;exact h
 | succ n ih =>
   intro t h;unfold Store.walkN;split
   . rename_i hb;exact ih (h.to hb)
   . exact h
end Store
end Go.J
/- The search for type variables finds all of them. -/
namespace Go.J
open Enc (enc)
inductive Occ:Ty->Ty->Prop
 |self {t:Ty}:t.kind=1->Occ t t
 |arg {t u x:Ty}:t.kind≠1->x∈t.args->Occ u x->Occ u t
theorem Occ.kind{u t:Ty}(h:Occ u t):u.kind=1:=by
 induction h with
 |self h=>exact h
 |arg _ _ _ ih=>exact ih
theorem Occ.var{u t:Ty}(h:Occ u t)(hk:t.kind=1):u=t:=by
 cases h with
 |self _=>rfl
 |arg h _ _=>exact absurd hk h
namespace Store
abbrev St:=List Int×List Bool
def Cov(s:Store)(st:St)(t:Ty):Prop:=∀ u,Occ u t->(s.bound u=true->st.2[u.id.toNat]?=some true)/\(s.bound u=false->u.id∈st.1)
def Inv(s:Store)(st:St)(G:List Nat):Prop:=∀ (i:Nat) (x:Slot),s.slots[i]?=some x->x.bound=true->st.2[i]?=some true->i ∉ G->s.Cov st x.type
structure Mono(st st':St):Prop where
 out:∀ v∈st.1,v∈st'.1
 done:∀ i:Nat,st.2[i]?=some true->st'.2[i]?=some true
 len:st'.2.length=st.2.length
theorem Mono.refl{st:St}:Mono st st:=⟨fun _ h=>h,fun _ h=>h,rfl⟩
theorem Mono.trans{a b c:St}(h:Mono a b)(k:Mono b c):Mono a c:=⟨fun v hv=>k.out v (h.out v hv),fun i hi=>k.done i (h.done i hi),k.len.trans h.len⟩
theorem Cov.mono{s:Store}{st st':St}{t:Ty}(h:s.Cov st t)(m:Mono st st'):s.Cov st' t:=fun u hu=>⟨fun hb=>m.done _ ((h u hu).1 hb),fun hb=>m.out _ ((h u hu).2 hb)⟩
theorem Inv.mono{s:Store}{st st':St}{G:List Nat}(h:s.Inv st G)(m:Mono st st')(hd:∀ i,st'.2[i]?=some true->i ∉ G->st.2[i]?=some true):s.Inv st' G :=
 fun i x hx hb hi hG=>(h i x hx hb (hd i hi hG) hG).mono m
structure VsR(s:Store)(P:Int->Prop)(G:List Nat)(st st':St):Prop where
 mono:Mono st st'
 inv:s.Inv st' G
 out:∀ v∈st'.1,v∈st.1\/P v
 und:J.und s.slots st'.2<=J.und s.slots st.2
theorem z7a{s:Store}{P:Int->Prop}{f:Nat}{G:List Nat}(ih:∀ (t:Ty) (st:St),(∀ u,Occ u t->P u.id)->t.size+J.und s.slots st.2<=f->st.2.length=s.slots.length->s.Inv st G->VsR s P G st (vsM s f t st)/\s.Cov (vsM s f t st) t) :
 ∀ (l:List Ty) (st:St),(∀ x∈l,∀ u,Occ u x->P u.id)->Ty.sizes l+J.und s.slots st.2<=f->st.2.length=s.slots.length->s.Inv st G ->
   VsR s P G st (l.foldl (fun st x=>vsM s f x st) st)/\∀ x∈l,s.Cov (l.foldl (fun st x=>vsM s f x st) st) x:=by
 intro l
 induction l with
 |nil=>intro st _ _ _ hi;exact⟨⟨.refl,hi,fun v hv=>.inl hv,Nat.le_refl _⟩,fun x hx=>by cases hx⟩
 | cons a l ihl =>
   intro st hP hf hl hi;simp only[Ty.sizes]at hf;obtain⟨h1,h2⟩:=ih a st (hP a (List.mem_cons_self ..)) (by omega) hl hi;have h1u:=h1.und;obtain⟨h3,h4⟩:=ihl (vsM s f a st) (fun x hx=>hP x (List.mem_cons_of_mem _ hx)) (by omega) (h1.mono.len.trans hl) h1.inv;rw[List.foldl_cons];refine⟨⟨h1.mono.trans h3.mono,h3.inv,fun v hv=>?_,Nat.le_trans h3.und h1.und⟩,fun x hx=>?_⟩
   . rcases h3.out v hv with h|h
     . exact h1.out v h
     . exact .inr h
   . rcases List.mem_cons.1 hx with rfl|hx
     . exact h2.mono h3.mono
     . exact h4 x hx
theorem z6Z {s:Store} {P:Int->Prop} (hP:∀ x∈s.slots,x.bound=true->∀ u,Occ u x.type->P u.id):∀ (f:Nat) (G:List Nat) (t:Ty) (st:St),(∀ u,Occ u t->P u.id)->t.size+J.und s.slots st.2<=f->st.2.length=s.slots.length->s.Inv st G ->
 VsR s P G st (vsM s f t st)/\s.Cov (vsM s f t st) t:=by
 intro f
 induction f with
 |zero=>intro G t st _ hf;have:=Ty.size_pos t;omega
 | succ f ih =>
   intro G t st hPt hf hl hi;have hsz:=Ty.size_pos t;rw[vsM];split
   . rename_i hk;split
     . rename_i hb;obtain⟨_,i,x,hid,hil,hx,hxb,hto⟩:=bound_slot hb;have hidn:t.id.toNat=i:=by rw[hid];rfl
       rw[hidn,hto];split
       . rename_i hd;have h1:=zj8 hx hd
         have m1:Mono st (st.1,st.2.set i true):=⟨fun _ h=>h,fun j hj=>by
          rw[List.getElem?_set];split
          . rename_i e;subst e;rw[if_pos (by rw[hl];exact hil)]
          . exact hj,by simp⟩
         have hi1:s.Inv (st.1,st.2.set i true) (i::G):=fun j y hy hyb hj hG=>by
          have hne:j≠i:=fun e=>hG (by simp[e])
          have hj':st.2[j]?=some true:=by
           simp only at hj;rw[List.getElem?_set_ne (fun e=>hne e.symm)]at hj;exact hj
          exact(hi j y hy hyb hj' fun h=>hG (List.mem_cons_of_mem _ h)).mono m1
         obtain⟨r1,r2⟩:=ih (i::G) x.type (st.1,st.2.set i true) (hP x (List.mem_of_getElem? hx) hxb) (by simp only;omega) (by simp[hl]) hi1;have hdi:(vsM s f x.type (st.1,st.2.set i true)).2[i]?=some true:=r1.mono.done i (by simp[hl,hil]);refine⟨⟨m1.trans r1.mono,fun j y hy hyb hj hG=>?_,r1.out,by have:=r1.und;simp only at this;omega⟩,fun u hu=>?_⟩
         . by_cases e:j=i
           . subst e;rw[hx]at hy;cases hy;exact r2
           . exact r1.inv j y hy hyb hj (by simp[e,hG])
         . rw[hu.var hk,hidn];exact⟨fun _=>hdi,fun h=>by rw[hb]at h;cases h⟩
       . rename_i hd;refine⟨⟨.refl,hi,fun v hv=>.inl hv,Nat.le_refl _⟩,fun u hu=>?_⟩;rw[hu.var hk,hidn];refine⟨fun _=>?_,fun h=>by rw[hb]at h;cases h⟩;have hlt:i<st.2.length:=by rw[hl];exact hil
         rw[List.getElem?_eq_getElem hlt]at hd ⊢
         cases hv:st.2[i]with
         |true=>rfl
         |false=>rw[hv]at hd;exact absurd rfl hd
     . rename_i hb;have hb':s.bound t=false:=by cases h:s.bound t with|true=>exact absurd h hb|false=>rfl
       split
       . rename_i hm;refine⟨⟨.refl,hi,fun v hv=>.inl hv,Nat.le_refl _⟩,fun u hu=>?_⟩;rw[hu.var hk];exact⟨fun h=>absurd h hb,fun _=>hm⟩
       . have m1:Mono st (st.1++[t.id],st.2):=⟨fun v hv=>List.mem_append_left _ hv,fun j hj=>hj,rfl⟩;refine⟨⟨m1,hi.mono m1 fun j hj _=>hj,fun v hv=>?_,Nat.le_refl _⟩,fun u hu=>?_⟩
         . rcases List.mem_append.1 hv with h|h
           . exact .inl h
           . rw[List.mem_singleton.1 h];exact .inr (hPt t (.self hk))
         . rw[hu.var hk];exact⟨fun h=>absurd h hb,fun _=>by simp⟩
   . rename_i hk;have hse:=Ty.size_eq t;obtain⟨h1,h2⟩:=z7a (fun t st=>ih G t st) t.args st (fun x hx u hu=>hPt u (.arg hk hx hu)) (by omega) hl hi;refine⟨h1,fun u hu=>?_⟩
     cases hu with
     |self h=>exact absurd h hk
     |arg _ hx hux=>exact h2 _ hx u hux
end Store
end Go.J
/- Stores that tapes make: binding and joining keep them. -/
namespace Go.J
open Enc (enc)
structure TyOk(n S:Nat)(t:Ty):Prop where
 ok:t.ok=true
 plain:t.vplain=true
 size:t.size<=S
 vars:∀ u,Occ u t->0<=u.id/\u.id<n
theorem TyOk.arg{n S:Nat}{t x:Ty}(h:TyOk n S t)(hx:x∈t.args):TyOk n S x:=by
 have hp:=vplains_iff.1 (zcF h.plain) x hx;refine⟨Ty.ok_arg h.ok hx,hp,by have:=Ty.size_arg hx;have:=h.size;omega,fun u hu=>h.vars u (.arg (fun hk=>?_) hx hu)⟩;have:=zbH h.plain hk;rw[this]at hx;cases hx
theorem TyOk.noargs{n S:Nat}{t:Ty}(h:TyOk n S t)(hk:t.kind=1):t.args=[]:=by
 have:=zbH h.plain hk;rw[this];rfl
theorem TyOk.le{n S S':Nat}{t:Ty}(h:TyOk n S t)(hS:S<=S'):TyOk n S' t:=⟨h.ok,h.plain,Nat.le_trans h.size hS,h.vars⟩
theorem TyOk.var{n S i:Nat}(hi:i<n)(hS:1<=S):TyOk n S (zad (i:Int)):=by
 refine⟨Ty.ok_iff.2 ⟨Nat.zero_le _,fun x hx=>by cases hx⟩,zeI _,by show (zad (i:Int)).size<=S;rw[Ty.size_eq];exact hS,fun u hu=>?_⟩;rw[hu.var rfl];exact⟨by simp[zad],by simp[zad];omega⟩
namespace Store
structure Tame(n S:Nat)(s:Store):Prop where
 len:s.slots.length=n
 types:∀ x∈s.slots,if x.bound=true then TyOk n S x.type else x.type=ty0
 fin:∀ i,i<n->s.Fin (zad (i:Int))
def unb(s:Store):Nat:=s.slots.countP fun x=>!x.bound
section
variable {n S:Nat}{s:Store}
theorem Tame.to(h:Tame n S s){t:Ty}(hb:s.bound t=true):TyOk n S (s.to t):=by
 obtain⟨_,i,x,_,_,hx,hxb,hto⟩:=bound_slot hb;have:=h.types x (List.mem_of_getElem? hx);rw[if_pos hxb]at this;rw[hto];exact this
theorem Tame.tysOk(h:Tame n S s)(hn:n<=1000):s.tysOk:=⟨by rw[h.len];exact hn,fun x hx=>by
 have:=h.types x hx;split at this
 . exact this.ok
 . rw[this];rfl⟩
theorem Tame.finT(h:Tame n S s){S':Nat}(t:Ty):TyOk n S' t->s.Fin t:=by
 induction t using Ty.ind with
 | h t ih =>
   intro ht;by_cases hk:t.kind=1
   . have e:=zbH ht.plain hk;obtain⟨h0,h1⟩:=ht.vars t (.self hk);obtain⟨i,hi⟩:=Int.eq_ofNat_of_zero_le h0;rw[e,hi];exact h.fin i (by omega)
   . refine Fin.mkn ?_ fun u hu=>ih u hu (ht.arg hu)
     cases hb:s.bound t with
     |false=>rfl
     |true=>exact absurd (zcr hb) hk
theorem Tame.walkN(h:Tame n S s){S':Nat}(hS:S<=S'):∀ (k:Nat) {t:Ty},TyOk n S' t->TyOk n S' (s.walkN k t):=by
 intro k
 induction k with
 |zero=>intro t ht;exact ht
 | succ k ih =>
   intro t ht;unfold Store.walkN;split
   . rename_i hb;exact ih ((h.to hb).le hS)
   . exact ht
theorem zDa{l:List Slot}{b:Nat}(h:∀ x∈l,x.type.size<=b):∀ m:List Bool,J.und l m<=l.length*b:=by
 induction l with
 |nil=>intro m;simp[J.und]
 | cons x l ih =>
   intro m
   cases m with
   |nil=>simp[J.und]
   | cons c m =>
     have h1:=ih (fun x hx=>h x (List.mem_cons_of_mem _ hx)) m;have h2:=h x (List.mem_cons_self ..);simp only[J.und,List.length_cons,Nat.succ_mul];split<;>omega
theorem Tame.und(h:Tame n S s)(hS:1<=S)(m:List Bool):J.und s.slots m<=n*S:=by
 have:=zDa (l:=s.slots) (b:=S) (fun x hx=>by
  have:=h.types x hx;split at this
  . exact this.size
  . rw[this];exact hS) m
 rw[h.len]at this;exact this
theorem Tame.vars (h:Tame n S s) (hS:1<=S) {S':Nat} {t:Ty} (ht:TyOk n S' t) (hb:n*S+S'<=100000) :
 (∀ v∈varsS s [t],0<=v/\v<n)/\(varsS s [t]).length<=n*S+S'/\∀ id:Int,s.bound (zad id)=false->s.Reach id t->id∈varsS s [t]:=by
 have hu:=h.und hS (List.replicate s.slots.length false);have hsz:=ht.size
 have key:=z6Z (s:=s) (P:=fun v=>0<=v/\v<n) (fun x hx hxb u hu=>by
  have:=h.types x hx;rw[if_pos hxb]at this
  exact this.vars u hu) 100000 [] t (([]:List Int),List.replicate s.slots.length false) ht.vars (by simp only;omega) (by simp) (fun i x _ _ hi=>by
   simp only[List.getElem?_replicate]at hi
   split at hi<;>cases hi)
 obtain⟨r1,r2⟩:=key;have hlen:=(ziJ s 100000 t (([]:List Int),List.replicate s.slots.length false)).2.2.2;unfold varsS;simp only[List.foldl_cons,List.foldl_nil];generalize vsM s 100000 t (([]:List Int),List.replicate s.slots.length false)=st at r1 r2 hlen;refine⟨fun v hv=>?_,?_,fun id hid hr=>?_⟩
 . rcases r1.out v hv with h|h
   . cases h
   . exact h
 . simp only[List.length_nil]at hlen;omega
 . have walk:∀ u,s.Reach id u->(∃ m,TyOk n m u)->s.Cov st u->id∈st.1:=by
    intro u hu
    induction hu with
    | here hk he =>
      intro _ hc;have:=(hc _ (.self hk)).2;rw[he]at this;refine this ?_
      cases hb:s.bound _ with
      |false=>rfl
      | true =>
        have:=(zkq hb (u:=zad id) rfl (by rw[he];rfl)).1;rw[hid]at this;cases this
    | to hb _ ih =>
      intro _ hc;have hk:=zcr hb;have hd:=(hc _ (.self hk)).1 hb;obtain⟨_,i,x,hi,hil,hx,hxb,hto⟩:=bound_slot hb;refine ih ⟨S,h.to hb⟩ ?_;rw[hto];exact r1.inv i x hx hxb (by rw[hi]at hd;exact hd) (by simp)
    | arg hb hx _ ih =>
      intro hm hc;obtain⟨m,hm⟩:=hm
      have hk:¬ _:=fun hk=>by
       have:=hm.noargs hk;rw[this]at hx;cases hx
      exact ih ⟨m,hm.arg hx⟩ fun u hu=>hc u (.arg hk hx hu)
   exact walk t hr ⟨S',ht⟩ r2
end
end Store
end Go.J
/- Binding and joining keep stores tame. -/
namespace Go.J
open Enc (enc)
namespace Store
def bt(x:Slot):Bool×Ty:=(x.bound,x.type)
def SameBT(s s':Store):Prop:=s'.slots.map bt=s.slots.map bt
section
variable {s s':Store}
theorem SameBT.refl:SameBT s s:=rfl
theorem SameBT.trans{a b c:Store}(h:SameBT a b)(k:SameBT b c):SameBT a c:=Eq.trans k h
theorem SameBT.len(h:SameBT s s'):s'.slots.length=s.slots.length:=by
 have:=congrArg List.length h;simpa using this
theorem SameBT.at(h:SameBT s s')(i:Nat):(s'.slots[i]?).map bt=(s.slots[i]?).map bt:=by
 have:=congrArg (fun l=>l[i]?) h;simpa using this
theorem SameBT.slot(h:SameBT s s')(id:Int):(s'.slot? id).map bt=(s.slot? id).map bt:=by
 unfold slot?;split
 . exact h.at _
 . rfl
theorem SameBT.bound(h:SameBT s s')(u:Ty):s'.bound u=s.bound u:=by
 have h1:=h.slot u.id;unfold Store.bound;cases h2:s'.slot? u.id<;>cases h3:s.slot? u.id<;>rw[h2,h3]at h1
 . cases h1
 . cases h1
 . have:bt _=bt _:=Option.some.inj h1;unfold bt at this;rw[Prod.mk.injEq]at this;cases decide (u.kind=1)<;>simp[this.1]
theorem SameBT.to(h:SameBT s s')(u:Ty):s'.to u=s.to u:=by
 have h1:=h.slot u.id;unfold Store.to;cases h2:s'.slot? u.id<;>cases h3:s.slot? u.id<;>rw[h2,h3]at h1
 . cases h1
 . cases h1
 . have:bt _=bt _:=Option.some.inj h1;unfold bt at this;rw[Prod.mk.injEq]at this;exact this.2
theorem SameBT.fin(h:SameBT s s'){u:Ty}(hu:s.Fin u):s'.Fin u:=by
 refine Store.Fin.ind (p:=s'.Fin) (fun t hb ih=>?_) (fun t hb ih=>?_) hu
 . exact .mkb ((h.bound t).trans hb) (by rw[h.to];exact ih)
 . exact .mkn ((h.bound t).trans hb) ih
theorem SameBT.reach(h:SameBT s s'){id:Int}{u:Ty}(hr:s'.Reach id u):s.Reach id u:=by
 induction hr with
 |here a b=>exact .here a b
 |to a _ ih=>rw[h.to]at ih;exact .to (by rw[<- h.bound];exact a) ih
 |arg a b _ ih=>exact .arg (by rw[<- h.bound];exact a) b ih
theorem SameBT.mem(h:SameBT s s'){x:Slot}(hx:x∈s'.slots):∃ y∈s.slots,y.bound=x.bound/\y.type=x.type:=by
 have:bt x∈s.slots.map bt:=by rw[<- h];exact List.mem_map.2 ⟨x,hx,rfl⟩
 obtain⟨y,hy,e⟩:=List.mem_map.1 this;unfold bt at e;rw[Prod.mk.injEq]at e;exact⟨y,hy,e.1,e.2⟩
theorem SameBT.tame(h:SameBT s s'){n S:Nat}(ht:Tame n S s):Tame n S s':=by
 refine⟨h.len.trans ht.len,fun x hx=>?_,fun i hi=>h.fin (ht.fin i hi)⟩;obtain⟨y,hy,e1,e2⟩:=h.mem hx;have:=ht.types y hy;rw[e1,e2]at this;exact this
theorem SameBT.unb(h:SameBT s s'):s'.unb=s.unb:=by
 unfold Store.unb;have e:∀ l:List Slot,l.countP (fun x=>!x.bound)=(l.map bt).countP fun p=>!p.1:=fun l=>by rw[List.countP_map];rfl
 rw[e,e,h]
end
theorem set_some{s:Store}{i:Nat}{x:Slot}(hi:i<s.slots.length):s.set (i:Int) x=(⟨s.slots.set i x,s.trail++[⟨(i:Int),s.slots[i],false⟩]⟩,true):=by
 unfold Store.set;rw[slot?_nat,List.getElem?_eq_getElem hi];rfl
theorem slotD_at{s:Store}{i:Nat}(hi:i<s.slots.length):s.slotD (i:Int)=s.slots[i]:=by
 unfold slotD;rw[slot?_nat,List.getElem?_eq_getElem hi];rfl
theorem znT{s:Store}{i:Nat}{x:Slot}(hi:i<s.slots.length)(hb:x.bound=s.slots[i].bound)(ht:x.type=s.slots[i].type):SameBT s (s.set (i:Int) x).1:=by
 rw[set_some hi];show (s.slots.set i x).map bt=_;rw[List.map_set];have e:bt x=(s.slots.map bt)[i]'(by simpa using hi):=by rw[List.getElem_map];unfold bt;rw[hb,ht]
 rw[e,List.set_getElem_self]
theorem zfo{s:Store}{i:Nat}{x:Slot}(hi:i<s.slots.length):(s.set (i:Int) x).1.trail.length=s.trail.length+1:=by rw[set_some hi];simp
theorem z7H {s:Store} {i:Nat} {x:Slot} (hi:i<s.slots.length) (hb:x.bound=true):Upd s (s.set (i:Int) x).1 (i:Int) x.type:=by
 rw[set_some hi]
 have hs:∀ id:Int,(⟨s.slots.set i x,s.trail++[⟨(i:Int),s.slots[i],false⟩]⟩:Store).slot? id=if id=(i:Int)then some x else s.slot? id:=by
  intro id;unfold slot?;split
  . rename_i h0;obtain⟨k,rfl⟩:=Int.eq_ofNat_of_zero_le h0;simp only[Int.toNat_natCast];rw[List.getElem?_set];by_cases e:i=k
    . subst e;rw[if_pos rfl,if_pos rfl,if_pos hi]
    . rw[if_neg e,if_neg (by omega)]
  . rw[if_neg (by omega)]
 constructor
 . intro u hu;by_cases hk:u.kind=1
   . have hne:¬ u.id=(i:Int):=fun e=>hu ⟨hk,e⟩
     refine⟨?_,fun _=>?_⟩
     . unfold Store.bound;rw[hs,if_neg hne]
     . unfold Store.to;rw[hs,if_neg hne]
   . have e:∀ s:Store,s.bound u=false:=fun s=>by
      cases h:s.bound u with
      |false=>rfl
      |true=>exact absurd (zcr h) hk
     exact⟨(e _).trans (e _).symm,fun h=>by rw[e]at h;cases h⟩
 . intro u hk hid;refine⟨?_,?_⟩
   . unfold Store.bound;rw[hs,if_pos hid,decide_eq_true hk];exact hb
   . unfold Store.to;rw[hs,if_pos hid]
theorem zqP {s:Store} {i:Nat} {x:Slot} (hi:i<s.slots.length) (hb:x.bound=true) (h0:s.slots[i].bound=false):(s.set (i:Int) x).1.unb+1=s.unb:=by
 rw[set_some hi];unfold unb;simp only
 have key:∀ (l:List Slot) (i:Nat) (hi:i<l.length),l[i].bound=false->(l.set i x).countP (fun x=>!x.bound)+1=l.countP fun x=>!x.bound:=by
  intro l
  induction l with
  |nil=>intro i hi;simp at hi
  | cons y l ih =>
    intro i hi h
    cases i with
    | zero =>
      simp only[List.getElem_cons_zero]at h;simp[List.countP_cons,hb,h]
    | succ i =>
      simp only[List.getElem_cons_succ]at h;have:=ih i (by simpa using hi) h;simp only[List.set_cons_succ,List.countP_cons];omega
 exact key _ i hi h0
theorem znS{n S:Nat}{s:Store}(h:Tame n S s){i:Nat}{x:Slot}(hi:i<n)(hb:x.bound=true)(ht:TyOk n S x.type)(h0:s.bound (zad (i:Int))=false)(hr:¬ s.Reach (i:Int) x.type):Tame n S (s.set (i:Int) x).1:=by
 have hil:i<s.slots.length:=by rw[h.len];exact hi
 have hu:=z7H (s:=s) (x:=x) hil hb;refine⟨by rw[set_some hil];simp[h.len],fun y hy=>?_,fun j hj=>hu.fin (h.finT _ ht) hr (h.fin j hj)⟩;rw[set_some hil]at hy;rcases List.mem_or_eq_of_mem_set hy with hy|rfl
 . exact h.types y hy
 . rw[if_pos hb];exact ht
theorem zjf{s:Store}(home:Int){v:Int}(h0:0<=v):SameBT s (lowerOne home s v)/\(lowerOne home s v).trail.length<=s.trail.length+1:=by
 unfold lowerOne;split
 . rename_i h;obtain⟨i,rfl⟩:=Int.eq_ofNat_of_zero_le h0;have hi:i<s.slots.length:=by omega
   refine⟨znT hi ?_ ?_,by rw[zfo hi];exact Nat.le_refl _⟩
   . rw[slotD_at hi]
   . rw[slotD_at hi]
 . exact⟨.refl,Nat.le_succ _⟩
theorem zd6(home:Int):∀ (l:List Int) (s:Store),(∀ v∈l,0<=v)->SameBT s (l.foldl (lowerOne home) s)/\(l.foldl (lowerOne home) s).trail.length<=s.trail.length+l.length:=by
 intro l
 induction l with
 |nil=>intro s _;exact⟨.refl,Nat.le_refl _⟩
 | cons v l ih =>
   intro s h;have h1:=zjf (s:=s) home (h v (List.mem_cons_self ..));have h2:=ih (lowerOne home s v) fun w hw=>h w (List.mem_cons_of_mem _ hw)
   rw[List.foldl_cons,List.length_cons];exact⟨h1.1.trans h2.1,by omega⟩
structure Step(n S:Nat)(s s':Store):Prop where
 tame:Tame n S s'
 trail:s'.trail.length+(n*S+S+2)*s'.unb<=s.trail.length+(n*S+S+2)*s.unb
 less:s'=s\/s'.unb<s.unb
theorem Step.refl{n S:Nat}{s:Store}(h:Tame n S s):Step n S s s:=⟨h,Nat.le_refl _,.inl rfl⟩
theorem Step.trans{n S:Nat}{a b c:Store}(h:Step n S a b)(k:Step n S b c):Step n S a c:=by
 refine⟨k.tame,Nat.le_trans k.trail h.trail,?_⟩;rcases h.less with rfl|h1
 . exact k.less
 . rcases k.less with rfl|h2
   . exact .inr h1
   . exact .inr (Nat.lt_trans h2 h1)
theorem Step.mk'{n S:Nat}{s s':Store}(h:Tame n S s')(hu:s'.unb+1=s.unb)(ht:s'.trail.length<=s.trail.length+(n*S+S+2)):Step n S s s':=by
 refine⟨h,?_,.inr (by omega)⟩;rw[<- hu,Nat.mul_add,Nat.mul_one];omega
theorem zil{n S:Nat}{s:Store}(h:Tame n S s)(hS:1<=S)(hn:n*S+S<=100000){i:Nat}(hi:i<n)(h0:s.bound (zad (i:Int))=false){t:Ty}(ht:TyOk n S t):Step n S s (s.bindM (i:Int) t).1:=by
 obtain⟨v1,v2,v3⟩:=h.vars hS ht hn;unfold bindM;split
 . exact .refl h
 rename_i hm;split
 . exact .refl h
 split
 . exact .refl h
 split
 . exact .refl h
 have hl:=zd6 (s.slotD (i:Int)).home (varsS s [t]) s fun v hv=>(v1 v hv).1
 generalize (varsS s [t]).foldl (lowerOne (s.slotD (i:Int)).home) s=s1 at hl;have t1:=hl.1.tame h;have hil:i<s1.slots.length:=by rw[t1.len];exact hi
 have hil0:i<s.slots.length:=by rw[h.len];exact hi
 have hb1:s1.bound (zad (i:Int))=false:=by rw[hl.1.bound];exact h0
 have hr:¬ s1.Reach (i:Int) t:=by
  exact fun hr=>hm (v3 (i:Int) h0 (hl.1.reach hr))
 have hsb:s1.slots[i].bound=false:=by
  have e:=bound_eq (s:=s1) (t:=zad (i:Int)) rfl (by show s1.slot? (i:Int)=some s1.slots[i];rw[slot?_nat];exact List.getElem?_eq_getElem hil);rw[hb1]at e;exact e.symm
 refine Step.mk' (znS t1 hi rfl ht hb1 hr) ?_ ?_
 . rw[zqP hil rfl hsb,hl.1.unb]
 . rw[zfo hil];have:=hl.2;omega
theorem join_step{n S:Nat}{s:Store}(h:Tame n S s)(hS:1<=S){i j:Nat}(hi:i<n)(hj:j<n)(h1:s.bound (zad (i:Int))=false)(h2:s.bound (zad (j:Int))=false):Step n S s (s.join (i:Int) (j:Int)):=by
 unfold join;split
 . exact .refl h
 rename_i hne;have hm:min (i:Int) (j:Int)=((min i j:Nat):Int):=by omega
 have hM:max (i:Int) (j:Int)=((max i j:Nat):Int):=by omega
 have hlo:min i j<n:=by omega
 have hhi:max i j<n:=by omega
 have hlt:min i j≠max i j:=by omega
 have hbl:s.bound (zad ((min i j:Nat):Int))=false:=by
  rcases Nat.le_total i j with h|h
  . rw[Nat.min_eq_left h];exact h1
  . rw[Nat.min_eq_right h];exact h2
 have hbh:s.bound (zad ((max i j:Nat):Int))=false:=by
  rcases Nat.le_total i j with h|h
  . rw[Nat.max_eq_right h];exact h2
  . rw[Nat.max_eq_left h];exact h1
 unfold joinL joinH;rw[hm,hM];generalize min i j=lo at hlo hlt hbl;generalize max i j=hi2 at hhi hlt hbh;have hlol:lo<s.slots.length:=by rw[h.len];exact hlo
 have hsame:=znT (s:=s) (i:=lo) (x:={ s.slotD (lo:Int)with home:=min (s.slotD (lo:Int)).home (s.slotD (hi2:Int)).home,base:=(s.slotD (lo:Int)).base||(s.slotD (hi2:Int)).base }) hlol (by rw[slotD_at hlol]) (by rw[slotD_at hlol]);have htr:=zfo (s:=s) (i:=lo) (x:={ s.slotD (lo:Int)with home:=min (s.slotD (lo:Int)).home (s.slotD (hi2:Int)).home,base:=(s.slotD (lo:Int)).base||(s.slotD (hi2:Int)).base }) hlol;generalize (s.set (lo:Int) { s.slotD (lo:Int)with home:=min (s.slotD (lo:Int)).home (s.slotD (hi2:Int)).home,base:=(s.slotD (lo:Int)).base||(s.slotD (hi2:Int)).base }).1=s1 at hsame htr;have t1:=hsame.tame h;have hil:hi2<s1.slots.length:=by rw[t1.len];exact hhi
 have hb1:s1.bound (zad (hi2:Int))=false:=by rw[hsame.bound];exact hbh
 have hb2:s1.bound (zad (lo:Int))=false:=by rw[hsame.bound];exact hbl
 have hr:¬ s1.Reach (hi2:Int) (zad (lo:Int)):=by
  intro hr
  cases hr with
  |here _ e=>simp[zad]at e;omega
  |to hb _=>rw[hb2]at hb;cases hb
  |arg _ hx _=>cases hx
 have hsb:s1.slots[hi2].bound=false:=by
  have e:=bound_eq (s:=s1) (t:=zad (hi2:Int)) rfl (by show s1.slot? (hi2:Int)=some s1.slots[hi2];rw[slot?_nat];exact List.getElem?_eq_getElem hil);rw[hb1]at e;exact e.symm
 refine Step.mk' (znS t1 hhi rfl (TyOk.var hlo hS) hb1 hr) ?_ ?_
 . rw[zqP hil rfl hsb,hsame.unb]
 . rw[zfo hil,htr];omega
end Store
end Go.J
/- The reference's unification comes to an end,and keeps stores tame. -/
namespace Go.J
open Enc (enc)
theorem z7R {w:Ty->Ty} (hw:∀ t,t.ok=true->(w t).ok=true):∀ (f:Nat) (t r:Ty),zkV w f t=some r->t.ok=true->r.ok=true:=by
 intro f
 induction f with
 |zero=>intro t r h;cases h
 | succ f ih =>
   intro t r h ht;rw[zkV]at h;split at h
   . rename_i l hl;cases h;have h1:=Ty.ok_iff.1 (hw t ht)
     have key:∀ (a m:List Ty),zfV (zkV w f) a=some m->(∀ x∈a,x.ok=true)->m.length=a.length/\∀ x∈m,x.ok=true:=by
      intro a
      induction a with
      |nil=>intro m h _;cases h;exact⟨rfl,fun x hx=>by cases hx⟩
      | cons x a iha =>
        intro m hm hx;unfold zfV at hm;split at hm
        . rename_i y m' h3 h4;cases hm;obtain⟨h5,h6⟩:=iha m' h4 fun z hz=>hx z (List.mem_cons_of_mem _ hz)
          refine⟨by simp[h5],fun z hz=>?_⟩;rcases List.mem_cons.1 hz with rfl|hz
          . exact ih x z h3 (hx x (List.mem_cons_self ..))
          . exact h6 z hz
        . cases hm
     obtain⟨h5,h6⟩:=key _ _ hl h1.2;exact Ty.ok_iff.2 ⟨by rw[Ty.args_mk,h5];exact h1.1,h6⟩
   . cases h
namespace Store
theorem ziR{s:Store}(hs:s.tysOk){t:Ty}(ht:t.ok=true):(zT s.w16 t).1.ok=true/\(zT s.w16 t).1.size<=10000:=by
 unfold zT;split
 . rename_i h;obtain⟨r,⟨f,hr⟩,hsz⟩:=sz_fits.1 h;have hr':Rz s.w16 t r:=⟨f,hr⟩;simp only[full_of hr'];exact⟨z7R (fun t ht=>walkN_ok hs _ ht) f t r hr ht,by omega⟩
 . exact⟨rfl,by decide⟩
def room(n S:Nat)(s:Store):Nat:=s.trail.length+(n*S+S+2)*s.unb
section
variable {n S:Nat}{s:Store}
theorem Tame.bindPre(h:Tame n S s)(hS:1<=S)(hn:n*S+S<=90000)(hn2:n<=1000){t:Ty}(ht:TyOk n S t)(hu:1<=s.unb)(hr:room n S s<=990):s.bindPre t:=by
 obtain⟨v1,v2,_⟩:=h.vars hS ht (by omega);have h1:=h.und hS (List.replicate s.slots.length false);have h2:=ht.size;refine⟨⟨h.tysOk hn2,Ty.oks_iff.2 (by simp[ht.ok]),by simp,by simp only[Ty.sizes];omega⟩,fun x hx=>(v1 x hx).1,?_,ziR (h.tysOk hn2) ht.ok⟩;unfold room at hr;have h3:(n*S+S+2)*1<=(n*S+S+2)*s.unb:=Nat.mul_le_mul_left _ hu;omega
theorem Tame.slot(h:Tame n S s){x:Ty}(hx:TyOk n S x)(hs:s.isSlot x=true)(hb:s.bound x=false):∃ i:Nat,i<n/\x=zad (i:Int)/\x.id=(i:Int)/\s.bound (zad (i:Int))=false/\1<=s.unb:=by
 unfold isSlot at hs;simp only[Bool.and_eq_true,decide_eq_true_eq]at hs;obtain⟨h0,h1⟩:=hx.vars x (.self hs.1);obtain⟨i,hi⟩:=Int.eq_ofNat_of_zero_le h0;have e:=zbH hx.plain hs.1;rw[hi]at e;refine⟨i,by omega,e,hi,by rw[<- e];exact hb,?_⟩;have hil:i<s.slots.length:=by rw[h.len];omega
 have e2:=bound_eq (s:=s) (t:=x) hs.1 (by rw[hi,slot?_nat];exact List.getElem?_eq_getElem hil);rw[hb]at e2;unfold unb;exact List.countP_pos_iff.2 ⟨s.slots[i],List.getElem_mem hil,by rw[<- e2];rfl⟩
def need(s:Store)(a:Ty):Nat:=s.unb*202+sz s.w16 a 200
theorem zgX{a:Ty}(h:sz s.w16 a 200<=200):∀ x∈(s.w16 a).args,sz s.w16 x 200<sz s.w16 a 200:=by
 intro x hx;obtain⟨r,hr,hs⟩:=sz_fits.1 h;obtain⟨l,hl,e⟩:=Rz_iff.1 hr;obtain⟨y,hy,hys⟩:=hl.size_mem x hx;have e1:r.size=Ty.sizes l+1:=by rw[e,Ty.size_eq];rfl
 rw[zfT hy,zfT hr];omega
theorem z7u {d:Nat} {rec:Store->Ty->Ty->Store×Int} (hrec:∀ s a b,Tame n S s->TyOk n S a->TyOk n S b->need s a<d->Step n S s (rec s a b).1) {s0:Store} {k:Nat} (hk:s0.unb*202+k<=d) (hk2:201<202) :
 ∀ (l m:List Ty) (s:Store),(∀ x∈l,TyOk n S x/\sz s0.w16 x 200<k)->(∀ x∈m,TyOk n S x)->Tame n S s->(s=s0\/s.unb<s0.unb)->Step n S s (uL rec l m s).1:=by
 intro l
 induction l with
 |nil=>intro m s _ _ h _;exact .refl h
 | cons x l ih =>
   intro m s hl hm h hs
   cases m with
   |nil=>exact .refl h
   | cons y m =>
     have hx:=hl x (List.mem_cons_self ..)
     have hn:need s x<d:=by
      unfold need;have:=zjC (w:=s.w16) x 200;rcases hs with rfl|hs
      . omega
      . have:s.unb*202+202<=s0.unb*202:=by omega
        omega
     have h1:=hrec s x y h hx.1 (hm y (List.mem_cons_self ..)) hn;rw[uL];split
     . refine h1.trans (ih m _ (fun z hz=>hl z (List.mem_cons_of_mem _ hz)) (fun z hz=>hm z (List.mem_cons_of_mem _ hz)) h1.tame ?_);rcases h1.less with e|h2
       . rw[e];exact hs
       . rcases hs with rfl|hs
         . exact .inr h2
         . exact .inr (Nat.lt_trans h2 hs)
     . exact h1
theorem zcB (hS:1<=S) (hn:n*S+S<=90000):∀ (d:Nat) (s:Store) (a b:Ty),Tame n S s->TyOk n S a->TyOk n S b->need s a<d->Step n S s (zaj d s a b).1:=by
 intro d
 induction d with
 |zero=>intro s a b _ _ _ h;omega
 | succ d ih =>
   intro s a b h ha hb hd;have hwa:TyOk n S (s.w16 a):=h.walkN (Nat.le_refl S) (s.slots.length+1) ha;have hwb:TyOk n S (s.w16 b):=h.walkN (Nat.le_refl S) (s.slots.length+1) hb;have fa:=(h.finT _ ha).walk.1;have fb:=(h.finT _ hb).walk.1;rw[zaj];unfold uStep;split
   . exact .refl h
   rename_i hsz;split
   . rename_i s1;obtain⟨i,hi,e1,e1',b1,_⟩:=h.slot hwa s1 fa;split
     . rename_i s2;obtain⟨j,hj,e2,e2',b2,_⟩:=h.slot hwb s2 fb;rw[e1',e2'];exact join_step h hS hi hj b1 b2
     . rw[e1'];exact zil h hS (by omega) hi b1 hwb
   . split
     . rename_i s2;obtain⟨j,hj,e2,e2',b2,_⟩:=h.slot hwb s2 fb;rw[e2'];exact zil h hS (by omega) hj b2 hwa
     . split
       . exact .refl h
       . unfold need at hd;exact z7u (s0:=s) (k:=sz s.w16 a 200) ih (by omega) (by omega) _ _ s (fun x hx=>⟨hwa.arg hx,zgX (by omega) x hx⟩) (fun x hx=>hwb.arg hx) h (.inl rfl)
structure UPre(S:Nat)(s:Store)(a b:Ty):Prop where
 tame:Tame s.slots.length S s
 left:TyOk s.slots.length S a
 right:TyOk s.slots.length S b
 room:Store.room s.slots.length S s<=990
open Classical in
def uF(S d:Nat)(s:Store)(a b:Ty):Option (Store×Int):=if s.slots.length*S+S<=90000/\s.slots.length<=1000/\UPre S s a b/\need s a<d then some (zaj d s a b)else none
theorem Step.room{s':Store}(h:Step n S s s'):Store.room n S s'<=Store.room n S s:=h.trail
theorem zKG {d:Nat} (hS:1<=S) (hn:n*S+S<=90000) (hn2:n<=1000) {s0:Store} {k:Nat} (hk:s0.unb*202+k<=d) :
 ∀ (l m:List Ty) (s:Store),(∀ x∈l,TyOk n S x/\sz s0.w16 x 200<k)->(∀ x∈m,TyOk n S x)->Tame n S s->Store.room n S s<=990->(s=s0\/s.unb<s0.unb)->uOk (uF S d) (zaj d) l m s:=by
 intro l
 induction l with
 |nil=>intro m s _ _ _ _ _;trivial
 | cons x l ih =>
   intro m s hl hm h hr hs
   cases m with
   |nil=>trivial
   | cons y m =>
     have hx:=hl x (List.mem_cons_self ..);have hy:=hm y (List.mem_cons_self ..)
     have hnd:need s x<d:=by
      unfold need;have:=zjC (w:=s.w16) x 200;rcases hs with rfl|hs
      . omega
      . have:s.unb*202+202<=s0.unb*202:=by omega
        omega
     have h1:=zcB hS hn d s x y h hx.1 hy hnd;have hlen:=h.len;refine⟨if_pos ⟨by rw[hlen];exact hn,by rw[hlen];exact hn2,⟨by rw[hlen];exact h,by rw[hlen];exact hx.1,by rw[hlen];exact hy,by rw[hlen];exact hr⟩,hnd⟩,fun _=>?_⟩;refine ih m _ (fun z hz=>hl z (List.mem_cons_of_mem _ hz)) (fun z hz=>hm z (List.mem_cons_of_mem _ hz)) h1.tame (Nat.le_trans h1.room hr) ?_;rcases h1.less with e|h2
     . rw[e];exact hs
     . rcases hs with rfl|hs
       . exact .inr h2
       . exact .inr (Nat.lt_trans h2 hs)
structure URun(S d:Nat)(s:Store)(a b:Ty):Prop where
 tys:s.tysOk
 trail:s.trail.length<=990
 left:s.isSlot (s.w16 a)=true->s.isSlot (s.w16 b)=false->s.bindPre (s.w16 b)
 right:s.isSlot (s.w16 b)=true->s.isSlot (s.w16 a)=false->s.bindPre (s.w16 a)
 calls:¬ (200<sz s.w16 a 200\/200<sz s.w16 b 200)->uOk (uF S d) (zaj d) (s.w16 a).args (s.w16 b).args s
theorem uF_run{d:Nat}(hS:1<=S){a b:Ty}{r:Store×Int}(h:uF S (d+1) s a b=some r):r=uStep (zaj d) s a b/\a.ok=true/\b.ok=true/\URun S d s a b:=by
 unfold uF at h;split at h
 . rename_i hh;obtain⟨hn,hn2,⟨h1,ha,hb,hr⟩,hd⟩:=hh;cases h;have hwa:TyOk s.slots.length S (s.w16 a):=h1.walkN (Nat.le_refl S) (s.slots.length+1) ha;have hwb:TyOk s.slots.length S (s.w16 b):=h1.walkN (Nat.le_refl S) (s.slots.length+1) hb;have fa:=(h1.finT _ ha).walk.1;have fb:=(h1.finT _ hb).walk.1;refine⟨rfl,ha.ok,hb.ok,h1.tysOk hn2,?_,fun s1 _=>?_,fun s2 _=>?_,fun hsz=>?_⟩
   . unfold Store.room at hr;omega
   . obtain⟨i,_,_,_,_,hu⟩:=h1.slot hwa s1 fa;exact h1.bindPre hS hn hn2 hwb hu hr
   . obtain⟨i,_,_,_,_,hu⟩:=h1.slot hwb s2 fb;exact h1.bindPre hS hn hn2 hwa hu hr
   . unfold need at hd;exact zKG (s0:=s) (k:=sz s.w16 a 200) hS hn hn2 (by omega) _ _ s (fun x hx=>⟨hwa.arg hx,zgX (by omega) x hx⟩) (fun x hx=>hwb.arg hx) h1 hr (.inl rfl)
 . cases h
end
end Store
end Go.J
/- Stores that tapes make: fresh slots,then equations. -/
namespace Go.J
open Enc (enc)
namespace Store
def unifT(s:Store)(a b:Ty):Store×Int:=zaj 300000 s a b
def topM(s:Store)(a b:Ty):Store×Int:=if (unifT s a b).2=0 then ((unifT s a b).1,0)else (s,(unifT s a b).2)
structure UAll(S:Nat)(s:Store)(a b:Ty):Prop where
 big:s.slots.length*S+S<=90000
 len:s.slots.length<=1000
 pre:UPre S s a b
theorem zkd{s:Store}(h:s.slots.length<=1000)(a:Ty):need s a<300000:=by
 have h1:s.unb<=s.slots.length:=List.countP_le_length;have h2:=zjC (w:=s.w16) a 200;have h3:s.unb*202<=1000*202:=Nat.mul_le_mul_right _ (by omega);unfold need;omega
theorem UAll.run{S:Nat}{s:Store}{a b:Ty}(h:UAll S s a b):uF S 300000 s a b=some (unifT s a b):=if_pos ⟨h.big,h.len,h.pre,zkd h.len a⟩
open Classical in
def topF(S:Nat)(s:Store)(a b:Ty):Option (Store×Int):=if UAll S s a b then some (topM s a b)else none
theorem zjB{n S:Nat}{s:Store}{a b:Ty}(hS:1<=S)(hn:n*S+S<=90000)(hn2:n<=1000)(h:Tame n S s)(ha:TyOk n S a)(hb:TyOk n S b):Step n S s (topM s a b).1:=by
 unfold topM;split
 . exact zcB hS hn 300000 s a b h ha hb (zkd (by rw[h.len];exact hn2) a)
 . exact .refl h
theorem Tame.uall{n S:Nat}{s:Store}{a b:Ty}(h:Tame n S s)(hn:n*S+S<=90000)(hn2:n<=1000)(ha:TyOk n S a)(hb:TyOk n S b)(hr:Store.room n S s<=990):UAll S s a b:=by
 have hl:=h.len;exact⟨by rw[hl];exact hn,by rw[hl];exact hn2,⟨by rw[hl];exact h,by rw[hl];exact ha,by rw[hl];exact hb,by rw[hl];exact hr⟩⟩
def Free(n:Nat)(s:Store):Prop:=s.slots.length=n/\s.trail.length=n/\∀ x∈s.slots,x.bound=false/\x.type=ty0
theorem Free.fresh{n:Nat}{s:Store}(h:Free n s)(home:Int)(base:Bool):Free (n+1) (s.fresh home base).1:=by
 obtain⟨h1,h2,h3⟩:=h;refine⟨by simp[Store.fresh,h1],by simp[Store.fresh,h2],fun x hx=>?_⟩;simp only[Store.fresh,List.mem_append,List.mem_singleton]at hx;rcases hx with hx|rfl
 . exact h3 x hx
 . exact⟨rfl,rfl⟩
theorem Free.tame{n S:Nat}{s:Store}(h:Free n s):Tame n S s:=by
 obtain⟨h1,h2,h3⟩:=h;refine⟨h1,fun x hx=>by rw[(h3 x hx).1];exact(h3 x hx).2,fun i hi=>Fin.mkn ?_ fun u hu=>by cases hu⟩
 cases hb:s.bound (zad (i:Int))with
 |false=>rfl
 | true =>
   obtain⟨_,j,x,_,_,hx,hxb,_⟩:=bound_slot hb;rw[(h3 x (List.mem_of_getElem? hx)).1]at hxb;cases hxb
theorem Free.room{n S:Nat}{s:Store}(h:Free n s):room n S s<=n+(n*S+S+2)*n:=by
 unfold Store.room;have h1:s.unb<=s.slots.length:=List.countP_le_length;rw[h.1]at h1;have:=Nat.mul_le_mul_left (n*S+S+2) h1;rw[h.2.1];omega
def frM(t:Tp):Nat->Tp×Store
 | 0=>(t,⟨[],[]⟩)
 |k+1=>((((frM t k).1.next 3).1.next 5).1,((frM t k).2.fresh ((frM t k).1.next 3).2 (decide ((((frM t k).1.next 3).1.next 5).2=0))).1)
theorem frM_ok{t:Tp}(h:t.ok):∀ k,(frM t k).1.ok/\(frM t k).1.l=t.l/\Free k (frM t k).2:=by
 intro k
 induction k with
 |zero=>exact⟨h,rfl,rfl,rfl,fun x hx=>by cases hx⟩
 |succ k ih=>exact⟨zbb (zbb ih.1 3) 5,by rw[frM,zcX,zcX];exact ih.2.1,ih.2.2.fresh _ _⟩
def unM(D:List Decl)(n:Nat)(t:Tp)(s:Store):Nat->Tp×Store
 | 0=>(t,s)
 | k + 1=>((typeM 1 (typeM 1 (unM D n t s k).1 D (zaO n)).1 D (zaO n++[zax 1 0])).1,
     (topM (unM D n t s k).2 (typeM 1 (unM D n t s k).1 D (zaO n)).2 (typeM 1 (typeM 1 (unM D n t s k).1 D (zaO n)).1 D (zaO n++[zax 1 0])).2).1)
theorem varTs_mem{n:Nat}{u:Ty}(h:u∈zaO n):∃ i,i<n/\u=zad (i:Int):=by
 unfold zaO at h;obtain⟨i,hi,e⟩:=List.mem_map.1 h;exact⟨i,List.mem_range.1 hi,e.symm⟩
def Leaf(n:Nat)(u:Ty):Prop:=(∃ i:Nat,i<n/\u=zad (i:Int))\/(u.kind≠1/\u.args=[]/\u.vplain=true)
theorem Leaf.occ{n:Nat}{x:Ty}(h:Leaf n x){u:Ty}(hu:Occ u x):0<=u.id/\u.id<n:=by
 rcases h with⟨i,hi,rfl⟩|⟨hk,ha,_⟩
 . rw[hu.var rfl];exact⟨by simp[zad],by simp[zad];omega⟩
 . cases hu with
   |self hk'=>exact absurd hk' hk
   |arg _ hx _=>rw[ha]at hx;cases hx
theorem zcC{D:List Decl}(hD:zvJ D){Lv:List Ty}{n:Nat}(hl:∀ u∈Lv,Leaf n u)(d:Nat)(t:Tp){S:Nat}(hS:2 ^ (d+1)<=S+1):TyOk n S (typeM d t D Lv).2:=by
 have hargs:∀ u∈Lv,u.args=[]:=fun u hu=>by
  rcases hl u hu with⟨i,_,rfl⟩|⟨_,h,_⟩
  . rfl
  . exact h
 have hsz:∀ u∈Lv,u.size<=1:=fun u hu=>by rw[Ty.size_eq,hargs u hu];exact Nat.le_refl _
 have hok:∀ u∈Lv,u.ok=true:=fun u hu=>Ty.ok_iff.2 ⟨by rw[hargs u hu];exact Nat.zero_le _,fun x hx=>by rw[hargs u hu]at hx;cases hx⟩
 have hvp:∀ u∈Lv,u.vplain=true:=fun u hu=>by
  rcases hl u hu with⟨i,_,rfl⟩|⟨_,_,h⟩
  . exact zeI _
  . exact h
 have hnode:∀ {x:Ty},x.kind≠1->(∀ y∈x.args,∀ u,Occ u y->0<=u.id/\u.id<n)->∀ u,Occ u x->0<=u.id/\u.id<(n:Int):=by
  intro x hk hx u hu
  cases hu with
  |self hk'=>exact absurd hk' hk
  |arg _ hy hu=>exact hx _ hy u hu
 refine⟨zoX hD hok d t,zkH hvp d t,by have:=zoY hD hsz d t;omega,?_⟩;refine zff (P:=fun x=>∀ u,Occ u x->0<=u.id/\u.id<(n:Int)) (fun u hu v hv=>(hl u hu).occ hv) (hnode (by decide) fun y hy=>by cases hy) (fun dd _ l _ hx=>hnode (by simp[zfN]) fun y hy=>hx y hy) (fun a b h1 h2=>hnode (by simp[zcx,zfN]) fun y hy=>?_) d t;simp only[zcx,zfN,Ty.args_mk,List.mem_cons,List.not_mem_nil,or_false]at hy;rcases hy with rfl|rfl<;>assumption
theorem zdY{n:Nat}:∀ u∈zaO n,Leaf n u:=fun u hu=>.inl (varTs_mem hu)
theorem zex{n:Nat}{h i:Int}:Leaf n (zax h i):=.inr ⟨by show (3:Int)≠1;decide,rfl,by simp[zax,Ty.vplain,Ty.vplains]⟩
theorem zeV{n:Nat}{l m:List Ty}(h:∀ u∈l,Leaf n u)(k:∀ u∈m,Leaf n u):∀ u∈l++m,Leaf n u:=fun u hu=>(List.mem_append.1 hu).elim (h u) (k u)
theorem unM_ok{D:List Decl}(hD:zvJ D){n:Nat}{t:Tp}{s:Store}(ht:t.ok)(hn:n*7+7<=90000)(hn2:n<=1000)(h:Tame n 7 s)(hr:room n 7 s<=990) :
 ∀ k,(unM D n t s k).1.ok/\(unM D n t s k).1.l=t.l/\Tame n 7 (unM D n t s k).2/\room n 7 (unM D n t s k).2<=990:=by
 intro k
 induction k with
 |zero=>exact⟨ht,rfl,h,hr⟩
 | succ k ih =>
   obtain⟨i1,i2,i3,i4⟩:=ih;have h1:=zeu (D:=D) (Lv:=zaO n) 1 _ i1;have h2:=zeu (D:=D) (Lv:=zaO n++[zax 1 0]) 1 _ h1.1;have a1:=zcC hD (zdY (n:=n)) 1 (unM D n t s k).1 (S:=7) (by decide);have a2:=zcC hD (zeV (zdY (n:=n)) (m:=[zax 1 0]) fun u hu=>by rw[List.mem_singleton.1 hu];exact zex) 1 (typeM 1 (unM D n t s k).1 D (zaO n)).1 (S:=7) (by decide);have st:=zjB (by omega) hn hn2 i3 a1 a2;exact⟨h2.1,by rw[unM,h2.2,h1.2,i2],st.tame,Nat.le_trans st.room i4⟩
theorem unM_all{D:List Decl}(hD:zvJ D){n:Nat}{t:Tp}{s:Store}(ht:t.ok)(hn:n*7+7<=90000)(hn2:n<=1000)(h:Tame n 7 s)(hr:room n 7 s<=990)(k:Nat) :
 UAll 7 (unM D n t s k).2 (typeM 1 (unM D n t s k).1 D (zaO n)).2 (typeM 1 (typeM 1 (unM D n t s k).1 D (zaO n)).1 D (zaO n++[zax 1 0])).2:=by
 obtain⟨i1,i2,i3,i4⟩:=unM_ok hD ht hn hn2 h hr k;exact i3.uall hn hn2 (zcC hD (zdY (n:=n)) 1 _ (S:=7) (by decide)) (zcC hD (zeV (zdY (n:=n)) (m:=[zax 1 0]) fun u hu=>by rw[List.mem_singleton.1 hu];exact zex) 1 _ (S:=7) (by decide)) i4
def storeN(t:Tp):Nat:=(1+(t.next 5).2).toNat
def storeM(t:Tp)(D:List Decl):Tp×Store :=
 unM D (storeN t) ((frM (t.next 5).1 (storeN t)).1.next 4).1 (frM (t.next 5).1 (storeN t)).2 ((frM (t.next 5).1 (storeN t)).1.next 4).2.toNat
theorem storeN_le(t:Tp):1<=storeN t/\storeN t<=5:=by
 have h1:=zh7 t 5;have h2:=zkb t (n:=5) (by omega);unfold storeN;omega
theorem storeM_ok{t:Tp}(ht:t.ok){D:List Decl}(hD:zvJ D):(storeM t D).1.ok/\(storeM t D).1.l=t.l/\Tame (storeN t) 7 (storeM t D).2/\(storeM t D).2.trail.length<=990:=by
 have hn:=storeN_le t;obtain⟨f1,f2,f3⟩:=frM_ok (zbb ht 5) (storeN t);have hr:=f3.room (S:=7)
 have hr':room (storeN t) 7 (frM (t.next 5).1 (storeN t)).2<=990:=by
  have:(storeN t*7+7+2)*storeN t<=44*5:=Nat.mul_le_mul (by omega) hn.2;omega
 obtain⟨u1,u2,u3,u4⟩:=unM_ok (n:=storeN t) hD (zbb f1 4) (by omega) (by omega) f3.tame hr' ((frM (t.next 5).1 (storeN t)).1.next 4).2.toNat;refine⟨u1,by unfold storeM;rw[u2,zcX,f2,zcX],u3,?_⟩;unfold storeM;unfold room at u4;omega
end Store
end Go.J
/- Types in slots and in trails stay well-formed. -/
namespace Go.J
open Enc (enc)
namespace Store
structure AllOk(s:Store):Prop where
 len:s.slots.length<=1000
 tys:∀ x∈s.slots,x.type.ok=true
 olds:∀ x∈s.trail,x.old.type.ok=true
theorem AllOk.tysOk{s:Store}(h:AllOk s):s.tysOk:=⟨h.len,h.tys⟩
theorem AllOk.set{s:Store}(h:AllOk s)(id:Int){x:Slot}(hx:x.type.ok=true):AllOk (s.set id x).1:=by
 unfold Store.set;split
 . rename_i old ho;obtain⟨i,_,hi,he⟩:=slot?_some ho;refine⟨by simp[h.len],fun y hy=>?_,fun y hy=>?_⟩
   . rcases List.mem_or_eq_of_mem_set hy with hy|rfl
     . exact h.tys y hy
     . exact hx
   . simp only[List.mem_append,List.mem_singleton]at hy;rcases hy with hy|rfl
     . exact h.olds y hy
     . exact h.tys _ (List.mem_of_getElem? he)
 . exact h
theorem znP{s:Store}(h:AllOk s)(id:Int):(s.slotD id).type.ok=true:=by
 unfold slotD
 cases ho:s.slot? id with
 |none=>rfl
 | some x =>
   obtain⟨i,_,hi,he⟩:=slot?_some ho;exact h.tys _ (List.mem_of_getElem? he)
theorem AllOk.fresh{s:Store}(h:AllOk s)(hl:s.slots.length<1000)(home:Int)(base:Bool):AllOk (s.fresh home base).1:=by
 refine⟨by simp[Store.fresh];omega,fun y hy=>?_,fun y hy=>?_⟩
 . simp only[Store.fresh,List.mem_append,List.mem_singleton]at hy;rcases hy with hy|rfl
   . exact h.tys y hy
   . rfl
 . simp only[Store.fresh,List.mem_append,List.mem_singleton]at hy;rcases hy with hy|rfl
   . exact h.olds y hy
   . rfl
theorem AllOk.lower{s:Store}(h:AllOk s)(home v:Int):AllOk (lowerOne home s v):=by
 unfold lowerOne;split
 . exact h.set _ (znP h v)
 . exact h
theorem AllOk.lowers(home:Int):∀ (l:List Int) {s:Store},AllOk s->AllOk (l.foldl (lowerOne home) s):=by
 intro l
 induction l with
 |nil=>intro s h;exact h
 |cons v l ih=>intro s h;exact ih (h.lower home v)
theorem AllOk.join{s:Store}(h:AllOk s)(i k:Int):AllOk (s.join i k):=by
 unfold Store.join;split
 . exact h
 . exact(h.set _ (x:=s.joinL i k) (znP h _)).set _ (x:=s.joinH i k) rfl
theorem AllOk.bind{s:Store}(h:AllOk s)(id:Int){t:Ty}(ht:t.ok=true):AllOk (s.bindM id t).1:=by
 unfold bindM;split
 . exact h
 split
 . exact h
 split
 . exact h
 split
 . exact h
 exact(AllOk.lowers _ _ h).set _ ht
end Store
end Go.J
/- Stores that were made of others,step by step: rolling back. -/
namespace Go.J
open Enc (enc)
namespace Store
inductive Ext:Store->Store->Prop
 |refl (a:Store):Ext a a
 |fresh {a b:Store} (h:Int) (g:Bool):Ext a b->Ext a (b.fresh h g).1
 |set {a b:Store} (i:Nat) (x:Slot):Ext a b->i<b.slots.length->Ext a (b.set (i:Int) x).1
theorem Ext.trans{a b c:Store}(h:Ext a b)(k:Ext b c):Ext a c:=by
 induction k with
 |refl=>exact h
 |fresh x g _ ih=>exact .fresh x g ih
 |set i x _ hi ih=>exact .set i x ih hi
theorem Ext.setI{a b:Store}(h:Ext a b)(id:Int)(x:Slot):Ext a (b.set id x).1:=by
 cases ho:b.slot? id with
 | none =>
   have:b.set id x=(b,false):=by unfold Store.set;rw[ho]
   rw[this];exact h
 | some old =>
   obtain⟨i,rfl,hi,_⟩:=slot?_some ho;exact .set i x h hi
theorem Ext.grow{a b:Store}(h:Ext a b):a.slots.length<=b.slots.length/\∃ l,b.trail=a.trail++l:=by
 induction h with
 |refl=>exact⟨Nat.le_refl _,[],by simp⟩
 | @fresh b x g _ ih =>
   obtain⟨h1,l,h2⟩:=ih;exact⟨by simp[Store.fresh];omega,l++[⟨(b.slots.length:Int),zwF,true⟩],by simp[Store.fresh,h2]⟩
 | @set b i x _ hi ih =>
   obtain⟨h1,l,h2⟩:=ih;rw[set_some hi];exact⟨by simp;exact h1,l++[⟨(i:Int),b.slots[i],false⟩],by simp[h2]⟩
theorem Ext.len{a b:Store}(h:Ext a b):a.trail.length<=b.trail.length:=by
 obtain⟨l,e⟩:=h.grow.2;rw[e];simp
theorem Ext.at{a b:Store}(h:Ext a b):∀ m,a.trail.length<=m->m<=b.trail.length->∃ c,Ext a c/\Ext c b/\c.trail.length=m:=by
 induction h with
 |refl=>exact fun m h1 h2=>⟨_,.refl _,.refl _,by omega⟩
 | @fresh b x g h ih =>
   intro m h1 h2;by_cases h3:m<=b.trail.length
   . obtain⟨c,c1,c2,c3⟩:=ih m h1 h3;exact⟨c,c1,.fresh x g c2,c3⟩
   . exact⟨_,.fresh x g h,.refl _,by simp only[Store.fresh,List.length_append,List.length_singleton]at h2 ⊢;omega⟩
 | @set b i x h hi ih =>
   intro m h1 h2;by_cases h3:m<=b.trail.length
   . obtain⟨c,c1,c2,c3⟩:=ih m h1 h3;exact⟨c,c1,.set i x c2 hi,c3⟩
   . refine⟨_,.set i x h hi,.refl _,?_⟩;rw[set_some hi]at h2 ⊢;simp only[List.length_append,List.length_singleton]at h2 ⊢;omega
theorem Ext.ids{a b:Store}(h:Ext a b)(ha:∀ c∈a.trail,0<=c.id):∀ c∈b.trail,0<=c.id:=by
 induction h with
 |refl=>exact ha
 | fresh x g _ ih =>
   intro c hc;simp only[Store.fresh,List.mem_append,List.mem_singleton]at hc;rcases hc with hc|rfl
   . exact ih c hc
   . exact Int.natCast_nonneg _
 | set i x _ hi ih =>
   intro c hc;rw[set_some hi]at hc;simp only[List.mem_append,List.mem_singleton]at hc;rcases hc with hc|rfl
   . exact ih c hc
   . exact Int.natCast_nonneg _
theorem zuY(home v:Int)(s:Store):Ext s (lowerOne home s v):=by
 unfold lowerOne;split
 . exact Ext.setI (.refl s) _ _
 . exact .refl _
theorem zpD(home:Int):∀ (l:List Int) (s:Store),Ext s (l.foldl (lowerOne home) s):=by
 intro l
 induction l with
 |nil=>intro s;exact .refl s
 |cons v l ih=>intro s;exact(zuY home v s).trans (ih _)
theorem zxY(s:Store)(i k:Int):Ext s (s.join i k):=by
 unfold Store.join;split
 . exact .refl _
 . exact(Ext.setI (.refl s) _ _).setI _ _
theorem zo8(s:Store)(id:Int)(t:Ty):Ext s (s.bindM id t).1:=by
 unfold bindM;split
 . exact .refl _
 split
 . exact .refl _
 split
 . exact .refl _
 split
 . exact .refl _
 exact(zpD _ _ s).setI _ _
theorem zFJ{rec:Store->Ty->Ty->Store×Int}(hrec:∀ s a b,Ext s (rec s a b).1):∀ (l m:List Ty) (s:Store),Ext s (uL rec l m s).1:=by
 intro l
 induction l with
 |nil=>intro m s;exact .refl s
 | cons x l ih =>
   intro m s
   cases m with
   |nil=>exact .refl s
   | cons y m =>
     rw[uL];split
     . exact(hrec s x y).trans (ih m _)
     . exact hrec s x y
theorem zuX:∀ (d:Nat) (s:Store) (a b:Ty),Ext s (zaj d s a b).1:=by
 intro d
 induction d with
 |zero=>intro s a b;exact .refl s
 | succ d ih =>
   intro s a b;rw[zaj];unfold uStep;split
   . exact .refl s
   split
   . split
     . exact zxY _ _ _
     . exact zo8 _ _ _
   . split
     . exact zo8 _ _ _
     . split
       . exact .refl s
       . exact zFJ ih _ _ s
theorem z9z(s:Store)(a b:Ty):Ext s (topM s a b).1:=by
 unfold topM;split
 . exact zuX _ s a b
 . exact .refl s
theorem zFK(t:Tp):∀ k,Ext ⟨[],[]⟩ (frM t k).2:=by
 intro k
 induction k with
 |zero=>exact .refl _
 |succ k ih=>exact .fresh _ _ ih
theorem zFI(D:List Decl)(n:Nat)(t:Tp)(s:Store):∀ k,Ext s (unM D n t s k).2:=by
 intro k
 induction k with
 |zero=>exact .refl _
 |succ k ih=>rw[unM];exact ih.trans (z9z _ _ _)
theorem zlN(t:Tp)(D:List Decl):Ext ⟨[],[]⟩ (storeM t D).2:=(zFK _ _).trans (zFI _ _ _ _ _)
end Store
end Go.J
/- Resolving in tame stores. -/
namespace Go.J
open Enc (enc)
namespace Store
section
variable {n S:Nat}{s:Store}
theorem zcm{t:Ty}(h:s.bound t=false):∀ k,s.walkN k t=t:=by
 intro k
 cases k with
 |zero=>rfl
 |succ k=>unfold walkN;rw[if_neg (by rw[h];simp)]
theorem Tame.end(h:Tame n S s)(t:Ty):s.bound (s.w16 t)=false/\s.w t=s.w16 t:=by
 cases hb:s.bound t with
 |false=>rw[show s.w16 t=t from zcm hb _,show s.w t=t from zcm hb _];exact⟨hb,rfl⟩
 |true=>exact(Fin.mkb hb (h.finT _ (h.to hb))).walk
theorem Tame.w_eq(h:Tame n S s):s.w=s.w16:=funext fun t=>(h.end t).2
theorem ze1{t u:Ty}(hk:u.kind=t.kind)(hi:u.id=t.id):s.bound u=s.bound t:=by
 unfold Store.bound;rw[hk,hi]
theorem Tame.again (h:Tame n S s):∀ (f:Nat) (t r:Ty),zkV s.w16 f t=some r->Rz s.w16 r r:=by
 intro f
 induction f with
 |zero=>intro t r h;cases h
 | succ f ih =>
   intro t r hr;rw[zkV]at hr;split at hr
   . rename_i l hl;cases hr
     have hb:s.bound (Ty.mk (s.w16 t).kind (s.w16 t).name (s.w16 t).id (s.w16 t).home l)=false:=by
      exact(ze1 (u:=Ty.mk (s.w16 t).kind (s.w16 t).name (s.w16 t).id (s.w16 t).home l) (t:=s.w16 t) rfl rfl).trans (h.end t).1
     have hw:s.w16 (Ty.mk (s.w16 t).kind (s.w16 t).name (s.w16 t).id (s.w16 t).home l)=Ty.mk (s.w16 t).kind (s.w16 t).name (s.w16 t).id (s.w16 t).home l:=zcm hb _;refine Rz_iff.2 ⟨l,?_,by rw[hw];rfl⟩;rw[hw,Ty.args_mk]
     have key:∀ (a m:List Ty),zfV (zkV s.w16 f) a=some m->Rzs s.w16 m m:=by
      intro a
      induction a with
      |nil=>intro m h;cases h;exact .nil
      | cons x a iha =>
        intro m hm;unfold zfV at hm;split at hm
        . rename_i y m' h3 h4;cases hm;exact .cons (ih x y h3) (iha m' h4)
        . cases hm
     exact key _ _ hl
   . cases hr
theorem Tame.resolved(h:Tame n S s){t:Ty}(hr:(zT s.w16 t).2=true):zT s.w16 (zT s.w16 t).1=((zT s.w16 t).1,true):=by
 unfold zT at hr ⊢;split at hr
 . rename_i hs;obtain⟨r,⟨f,hf⟩,hz⟩:=sz_fits.1 hs;have e:full s.w16 t=r:=full_of ⟨f,hf⟩;have h2:=h.again f t r hf;rw[if_pos hs];simp only[e];rw[if_pos (sz_fits.2 ⟨r,h2,hz⟩),full_of h2]
 . cases hr
end
end Store
end Go.J
/- The search for type variables with a set of those that were seen finds what the reference's search finds. -/
namespace Go.J
open Enc (enc)
namespace Store
abbrev Sv:=List Int×List Int
def svL (rec:Ty->Sv->Option Sv):List Ty->Sv->Option Sv
 | [],st=>some st
 | x::l,st=>match rec x st with
   |some st'=>svL rec l st'
   |none=>none
def svO (s:Store):Nat->Ty->Sv->Option Sv
 | 0,_,_=>none
 | f + 1,t,st=>if t.kind=1 then
     (if t.id∈st.1 then some st
       else if s.bound t=false then some (st.1++[t.id],st.2++[t.id])
       else if (s.to t).kind=1 then svO s f (s.to t) (st.1++[t.id],st.2)
       else svL (svO s f) (s.to t).args (st.1++[t.id],st.2))
   else svL (svO s f) t.args st
structure Corr(s:Store)(sv:Sv)(st:List Int×List Bool):Prop where
 out:sv.2=st.1
 seen:∀ u:Ty,u.kind=1->(u.id∈sv.1↔if s.bound u=true then st.2[u.id.toNat]?=some true else u.id∈st.1)
 len:st.2.length=s.slots.length
theorem zqD{s:Store}{F G:Nat}(ih:∀ x sv st,Corr s sv st->x.size+J.und s.slots st.2<=F->x.size+J.und s.slots st.2<=G->∃ sv',svO s G x sv=some sv'/\Corr s sv' (vsM s F x st)) :
 ∀ (l:List Ty) (sv:Sv) (st:List Int×List Bool),Corr s sv st->Ty.sizes l+J.und s.slots st.2<=F->Ty.sizes l+J.und s.slots st.2<=G->∃ sv',svL (svO s G) l sv=some sv'/\Corr s sv' (l.foldl (fun st x=>vsM s F x st) st):=by
 intro l
 induction l with
 |nil=>intro sv st h _ _;exact⟨sv,rfl,h⟩
 | cons x l ih2 =>
   intro sv st h hF hG;simp only[Ty.sizes]at hF hG;obtain⟨sv1,e1,h1⟩:=ih x sv st h (by omega) (by omega);have hv:=(ziJ s F x st).2.2.1;obtain⟨sv2,e2,h2⟩:=ih2 sv1 (vsM s F x st) h1 (by omega) (by omega);exact⟨sv2,by rw[svL,e1];exact e2,h2⟩
theorem Corr.mark {s:Store} {sv:Sv} {st:List Int×List Bool} (h:Corr s sv st) {t:Ty} {i:Nat} (hk:t.kind=1) (hb:s.bound t=true) (hi:t.id=(i:Int)) (hil:i<s.slots.length):Corr s (sv.1++[t.id],sv.2) (st.1,st.2.set i true):=by
 refine⟨h.out,fun u hu=>?_,by simp[h.len]⟩;simp only[List.mem_append,List.mem_singleton];rw[h.seen u hu];by_cases e:u.id=t.id
 . have hub:s.bound u=true:=by rw[ze1 (hu.trans hk.symm) e];exact hb
   rw[if_pos hub,if_pos hub,e,hi,Int.toNat_natCast];simp[h.len,hil]
 . cases hub:s.bound u with
   | true =>
     obtain⟨_,j,x,hj,hjl,_⟩:=bound_slot hub;have hne:i≠j:=fun e2=>e (by rw[hj,hi,e2])
     simp only[if_true,hj,Int.toNat_natCast];rw[List.getElem?_set,if_neg hne];constructor
     . rintro (h1|h1)
       . exact h1
       . exact absurd (hj.trans h1) e
     . exact .inl
   | false =>
     simp only[Bool.false_eq_true,if_false];exact⟨fun h1=>h1.elim id fun h1=>absurd h1 e,.inl⟩
theorem Corr.find{s:Store}{sv:Sv}{st:List Int×List Bool}(h:Corr s sv st){t:Ty}(hk:t.kind=1)(hb:s.bound t=false):Corr s (sv.1++[t.id],sv.2++[t.id]) (st.1++[t.id],st.2):=by
 refine⟨by simp[h.out],fun u hu=>?_,h.len⟩;simp only[List.mem_append,List.mem_singleton];rw[h.seen u hu]
 cases hub:s.bound u with
 | true =>
   have e:¬ u.id=t.id:=fun e=>by rw[ze1 (hu.trans hk.symm) e,hb]at hub;cases hub
   simp[e]
 |false=>simp
theorem zDw (s:Store):∀ (F:Nat) (t:Ty) (G:Nat) (sv:Sv) (st:List Int×List Bool),Corr s sv st->t.size+J.und s.slots st.2<=F->t.size+J.und s.slots st.2<=G->∃ sv',svO s G t sv=some sv'/\Corr s sv' (vsM s F t st):=by
 intro F
 induction F using Nat.strongRecOn with
 | _ F ih =>
   intro t G sv st h hF hG;have hp:=Ty.size_pos t;have hse:=Ty.size_eq t;obtain⟨F,rfl⟩:∃ f,F=f+1:=⟨F-1,by omega⟩;obtain⟨G,rfl⟩:∃ g,G=g+1:=⟨G-1,by omega⟩;rw[svO,vsM];by_cases hk:t.kind=1
   . rw [if_pos hk,if_pos hk];have hs:=h.seen t hk
     cases hb:s.bound t with
     | false =>
       rw[hb]at hs;simp only[Bool.false_eq_true,if_false]at hs ⊢;by_cases hm:t.id∈st.1
       . rw[if_pos (hs.2 hm),if_pos hm];exact⟨sv,rfl,h⟩
       . rw[if_neg (fun e=>hm (hs.1 e)),if_neg hm,if_pos trivial];exact⟨_,rfl,h.find hk hb⟩
     | true =>
       rw[hb]at hs;simp only[if_true]at hs ⊢;obtain⟨_,i,x,hi,hil,hx,hxb,hto⟩:=bound_slot hb;by_cases hd:st.2[i]?=some false
       . have hm:¬ t.id∈sv.1:=fun e=>by
          have:=hs.1 e;rw[hi,Int.toNat_natCast,hd]at this;cases this
         rw[if_neg hm,if_neg (by simp)];have hd':st.2[t.id.toNat]?=some false:=by rw[hi,Int.toNat_natCast];exact hd
         rw[if_pos hd'];have hmk:=h.mark hk hb hi hil;have hund:=zj8 hx hd;have e:t.id.toNat=i:=by rw[hi,Int.toNat_natCast]
         rw[e,hto];have b1:x.type.size+J.und s.slots (st.2.set i true)<=F:=by omega
         have b2:x.type.size+J.und s.slots (st.2.set i true)<=G:=by omega
         by_cases hk2:x.type.kind=1
         . rw[if_pos hk2];exact ih F (by omega) x.type G _ _ hmk b1 b2
         . rw[if_neg hk2];have hp2:=Ty.size_pos x.type;have hse2:=Ty.size_eq x.type;obtain⟨F',rfl⟩:∃ f,F=f+1:=⟨F-1,by omega⟩;rw[vsM,if_neg hk2];exact zqD (fun y sv st h a b=>ih F' (by omega) y G sv st h a b) x.type.args _ _ hmk (by simp only at b1 ⊢;omega) (by simp only at b2 ⊢;omega)
       . have hm:t.id∈sv.1:=hs.2 (by
          rw[hi,Int.toNat_natCast];have hl2:i<st.2.length:=by rw[h.len];exact hil
          rw[List.getElem?_eq_getElem hl2]at hd ⊢
          cases hq:st.2[i]with
          |true=>rfl
          |false=>rw[hq]at hd;exact absurd rfl hd)
         have hd':¬ st.2[t.id.toNat]?=some false:=by rw[hi,Int.toNat_natCast];exact hd
         rw[if_pos hm,if_neg hd'];exact⟨sv,rfl,h⟩
   . rw[if_neg hk,if_neg hk];exact zqD (fun y sv st h a b=>ih F (by omega) y G sv st h a b) t.args sv st h (by omega) (by omega)
theorem svs_vars{s:Store}{l:List Ty}(h:zbw s l):∃ sv,svL (svO s 100000) l ([],[])=some sv/\sv.2=varsS s l:=by
 have h0:Corr s ([],[]) (([]:List Int),List.replicate s.slots.length false):=by
  refine⟨rfl,fun u _=>?_,by simp⟩
  have:¬ (List.replicate s.slots.length false)[u.id.toNat]?=some true:=fun e=>by
   rw[List.getElem?_replicate]at e;split at e<;>cases e
  cases s.bound u<;>simp[this]
 obtain⟨sv,e,hc⟩:=zqD (F:=100000) (G:=100000) (fun x sv st h a b=>zDw s 100000 x 100000 sv st h a b) l _ _ h0 (by have:=h.2.2.2;simp only;omega) (by have:=h.2.2.2;simp only;omega);exact⟨sv,e,hc.out⟩
end Store
namespace Store
theorem svL_len{rec:Ty->Sv->Option Sv}(ih:∀ x st r,rec x st=some r->st.2.length<=r.2.length):∀ (l:List Ty) (st r:Sv),svL rec l st=some r->st.2.length<=r.2.length:=by
 intro l
 induction l with
 |nil=>intro st r h;cases h;exact Nat.le_refl _
 | cons x l ih2 =>
   intro st r h;rw[svL]at h;split at h
   . rename_i st' h1;exact Nat.le_trans (ih x st st' h1) (ih2 st' r h)
   . cases h
theorem svO_len (s:Store):∀ (f:Nat) (t:Ty) (st r:Sv),svO s f t st=some r->st.2.length<=r.2.length:=by
 intro f
 induction f with
 |zero=>intro t st r h;cases h
 | succ f ih =>
   intro t st r h;rw[svO]at h;split at h
   . split at h
     . cases h;exact Nat.le_refl _
     . split at h
       . cases h;simp
       . split at h
         . have:=ih _ (st.1++[t.id],st.2) _ h;exact this
         . have:=svL_len ih _ (st.1++[t.id],st.2) _ h;exact this
   . exact svL_len ih _ _ _ h
def svF(d:Nat)(s:Store)(st:Sv)(t:Ty):Option Sv:=if s.tysOk/\t.ok=true then (match svO s d t st with
 |some r=>if r.2.length<=100000 then some r else none
 |none=>none)else none
theorem svF_inv{d:Nat}{s:Store}{st r:Sv}{t:Ty}(h:svF d s st t=some r):s.tysOk/\t.ok=true/\svO s d t st=some r/\r.2.length<=100000:=by
 unfold svF at h;split at h
 . rename_i h1;split at h
   . split at h
     . cases h;exact⟨h1.1,h1.2,by assumption,by assumption⟩
     . cases h
   . cases h
 . cases h
theorem svF_mk{d:Nat}{s:Store}{st r:Sv}{t:Ty}(h1:s.tysOk)(h2:t.ok=true)(h3:svO s d t st=some r)(h4:r.2.length<=100000):svF d s st t=some r:=by
 unfold svF;rw[if_pos ⟨h1,h2⟩,h3];exact if_pos h4
end Store
end Go.J
