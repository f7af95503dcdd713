import Derived.Test.YtocdkgjpdnamlaaGreatJN
set_option linter.all false
noncomputable section
/- The fQ unification in a store: its model. -/
namespace Go.J
open Enc (enc)
namespace Store
def uL(rec:Store->Ty->Ty->Store×Int):List Ty->List Ty->Store->Store×Int
 |x::l,y::m,s=>if (rec s x y).2=0 then uL rec l m (rec s x y).1 else rec s x y
 |_,_,s=>(s,0)
def clash(x y:Ty):Prop:=x.kind≠y.kind\/x.name≠y.name\/x.id≠y.id\/x.home≠y.home\/x.args.length≠y.args.length
instance (x y:Ty):Decidable (clash x y):=by unfold clash;infer_instance
def rM(rec:Store->Ty->Ty->Store×Int)(s:Store)(a b:Ty):Store×Int :=
 if 200<sz s.w16 a 200\/200<sz s.w16 b 200 then (s,15)
 else if s.bG (s.w16 a)=true then (if s.bG (s.w16 b)=true then (s.join (s.w16 a).id (s.w16 b).id,0)else s.bindM (s.w16 a).id (s.w16 b))
 else if s.bG (s.w16 b)=true then s.bindM (s.w16 b).id (s.w16 a)
 else if clash (s.w16 a) (s.w16 b)then (s,11)
 else uL rec (s.w16 a).args (s.w16 b).args s
def dC:Nat->Store->Ty->Ty->Store×Int
 | 0,s,_,_=>(s,0)
 |f+1,s,a,b=>rM (dC f) s a b
def zxe(F:Store->Ty->Ty->Option (Store×Int))(rec:Store->Ty->Ty->Store×Int):List Ty->List Ty->Store->Prop
 |x::l,y::m,s=>F s x y=some (rec s x y)/\((rec s x y).2=0->zxe F rec l m (rec s x y).1)
 |_,_,_=>True
structure qX(s:Store)(t:Ty):Prop where
 vars:iO s [t]
 pos:∀ x∈dz s [t],0<=x
 trail:s.trail.length+(dz s [t]).length<1000
 res:(bK s.w16 t).1.ok=true/\(bK s.w16 t).1.size<=10000
open Classical in
def Qe(s:Store)(id:Int)(t:Ty):Option (Store×Int):=if s.dF/\t.ok=true/\s.qX t/\(s.slot? id).isSome=true then some (s.bindM id t)else none
theorem tF{s:Store}{t:Ty}(h:s.bG t=true):(s.slot? t.id).isSome=true:=by
 unfold bG at h
 grind
end Store
end Go.J
/- Stores without zkM. -/
namespace Go.J
open Enc (enc)
namespace Store
theorem ng{s:Store}{t:Ty}(h:s.bound t=true):t.kind=1:=(kN h).1
def below(s:Store)(u t:Ty):Prop:=(s.bound t=true/\u=s.to t)\/(s.bound t=false/\u∈t.args)
def Fin(s:Store)(t:Ty):Prop:=Acc s.below t
theorem Fin.to{s:Store}{t:Ty}(h:s.Fin t)(hb:s.bound t=true):s.Fin (s.to t):=Acc.inv h (.inl ⟨hb,rfl⟩)
theorem Fin.arg{s:Store}{t u:Ty}(h:s.Fin t)(hb:s.bound t=false)(hu:u∈t.args):s.Fin u:=Acc.inv h (.inr ⟨hb,hu⟩)
theorem Fin.ind{s:Store}{p:Ty->Prop}(hb:∀ t,s.bound t=true->p (s.to t)->p t)(hn:∀ t,s.bound t=false->(∀ u∈t.args,p u)->p t){t:Ty}(h:s.Fin t):p t:=by
 induction h with
 | intro t _ ih =>
   cases hh:s.bound t with
   |true=>exact hb t hh (ih _ (.inl ⟨hh,rfl⟩))
   |false=>exact hn t hh fun u hu=>ih u (.inr ⟨hh,hu⟩)
theorem Fin.zus{s:Store}{t:Ty}(hb:s.bound t=true)(h:s.Fin (s.to t)):s.Fin t:=.intro t fun u hu=>by
 rcases hu with⟨_,rfl⟩|⟨h1,_⟩
 . exact h
 . rw[hb]at h1;cases h1
theorem Fin.zqA{s:Store}{t:Ty}(hb:s.bound t=false)(h:∀ u∈t.args,s.Fin u):s.Fin t:=.intro t fun u hu=>by
 rcases hu with⟨h1,_⟩|⟨_,h1⟩
 . rw[hb]at h1;cases h1
 . exact h u h1
inductive Reach (s:Store) (id:Int):Ty->Prop
 |here {t:Ty}:t.kind=1->t.id=id->Reach s id t
 |to {t:Ty}:s.bound t=true->Reach s id (s.to t)->Reach s id t
 |arg {t u:Ty}:s.bound t=false->u∈t.args->Reach s id u->Reach s id t
structure zFN(s s':Store)(id:Int)(t:Ty):Prop where
 other:∀ u:Ty,¬ (u.kind=1/\u.id=id)->s'.bound u=s.bound u/\(s.bound u=true->s'.to u=s.to u)
 self:∀ u:Ty,u.kind=1->u.id=id->s'.bound u=true/\s'.to u=t
theorem zFN.zMw{s s':Store}{id:Int}{t:Ty}(h:zFN s s' id t){u:Ty}(hu:s.Fin u):¬ Reach s id u->s'.Fin u:=by
 have:∀ u,s.Fin u->(¬ Reach s id u->s'.Fin u):=fun u hu=>by
  refine Fin.ind (p:=fun u=>¬ Reach s id u->s'.Fin u) (fun u hb ih hr=>?_) (fun u hb ih hr=>?_) hu
  . obtain⟨h1,h2⟩:=h.other u fun hh=>hr (.here hh.1 hh.2)
    refine Fin.zus (h1.trans hb) ?_;rw[h2 hb];exact ih fun hh=>hr (.to hb hh)
  . obtain⟨h1,_⟩:=h.other u fun hh=>hr (.here hh.1 hh.2)
    exact Fin.zqA (h1.trans hb) fun x hx=>ih x hx fun hh=>hr (.arg hb hx hh)
 exact this u hu
theorem zFN.fin{s s':Store}{id:Int}{t:Ty}(h:zFN s s' id t)(ht:s.Fin t)(hr:¬ Reach s id t){u:Ty}(hu:s.Fin u):s'.Fin u:=by
 have ht':=h.zMw ht hr;refine Fin.ind (p:=s'.Fin) (fun u hb ih=>?_) (fun u hb ih=>?_) hu
 . by_cases hi:u.kind=1/\u.id=id
   . obtain⟨h1,h2⟩:=h.self u hi.1 hi.2
     grind [Fin.zus]
   . obtain⟨h1,h2⟩:=h.other u hi
     grind [Fin.zus]
 . by_cases hi:u.kind=1/\u.id=id
   . obtain⟨h1,h2⟩:=h.self u hi.1 hi.2
     grind [Fin.zus]
   . exact Fin.zqA ((h.other u hi).1.trans hb) ih
inductive Ends (s:Store):Ty->Nat->Prop
 |stop {t:Ty}:s.bound t=false->Ends s t 0
 |step {t:Ty} {d:Nat}:s.bound t=true->Ends s (s.to t) d->Ends s t (d+1)
theorem Ends.uniq{s:Store}{t:Ty}{d:Nat}(h:Ends s t d):∀ {e:Nat},Ends s t e->d=e:=by
 induction h with
 | stop hb =>
   intro e h2
   cases h2 with
   |stop=>rfl
   |step hb2 _=>rw[hb]at hb2;cases hb2
 | step hb _ ih =>
   intro e h2
   cases h2 with
   |stop hb2=>rw[hb]at hb2;cases hb2
   |step _ h3=>rw[ih h3]
theorem Fin.ends{s:Store}{t:Ty}(h:s.Fin t):∃ d,Ends s t d :=
 Fin.ind (p:=fun t=>∃ d,Ends s t d) (fun _ hb ⟨d,hd⟩=>⟨d+1,.step hb hd⟩) (fun _ hb _=>⟨0,.stop hb⟩) h
theorem IA{s:Store}{t u:Ty}(ht:s.bound t=true)(hk:u.kind=1)(hi:u.id=t.id):s.bound u=true/\s.to u=s.to t:=by
 obtain⟨h1,x,h2,h3⟩:=kN ht;refine⟨?_,?_⟩
 . grind [j6]
 . unfold Store.to;rw[hi]
theorem Ends.id{s:Store}{t u:Ty}{d e:Nat}(ht:Ends s t (d+1))(hu:Ends s u (e+1))(hi:t.id=u.id):d=e:=by
 cases ht with
 | step hb h1 =>
   cases hu with
   | step hb2 h2 =>
     obtain⟨_,e1⟩:=IA hb (ng hb2) hi.symm;rw[e1]at h2;exact h1.uniq h2
theorem ztT:∀ (n:Nat) (l:List Nat),l.Nodup->(∀ x∈l,x<n)->l.length<=n:=by
 intro n
 induction n with
 | zero =>
   intro l _ h
   cases l with
   |nil=>exact Nat.le_refl _
   |cons x l=>exact absurd (h x (List.mem_cons_self ..)) (Nat.not_lt_zero _)
 | succ n ih =>
   intro l hn h
   have h1:=ih (l.erase n) (hn.erase n) fun x hx=>by
    grind
   grind
theorem Ends.ids{s:Store}{t:Ty}{d:Nat}(h:Ends s t d):∃ l:List Nat,l.length=d/\l.Nodup/\∀ x∈l,x<s.slots.length/\∃ u e,Ends s u (e+1)/\e<d/\u.id=(x:Int):=by
 induction h with
 |stop _=>exact⟨[],rfl,List.nodup_nil,fun x hx=>by cases hx⟩
 | @step t d hb h1 ih =>
   obtain⟨l,h2,h3,h4⟩:=ih;obtain⟨_,x,hx,_⟩:=kN hb;obtain⟨i,hi,hil,_⟩:=slot?_some hx;refine⟨i::l,by simp[h2],List.nodup_cons.2 ⟨fun hm=>?_,h3⟩,fun y hy=>?_⟩
   . obtain⟨_,u,e,h5,h6,h7⟩:=h4 i hm;have:=Ends.id (.step hb h1) h5 (by rw[hi,h7]);omega
   . rcases List.mem_cons.1 hy with rfl|hy
     . exact⟨hil,t,d,.step hb h1,by omega,hi⟩
     grind
theorem Ends.le{s:Store}{t:Ty}{d:Nat}(h:Ends s t d):d<=s.slots.length:=by
 obtain⟨l,h1,h2,h3⟩:=h.ids;rw[<- h1];exact ztT _ l h2 fun x hx=>(h3 x hx).1
theorem Ends.walk {s:Store} {t:Ty} {d:Nat} (h:Ends s t d):∀ n,d<=n->s.bX n t=s.bX d t/\s.bound (s.bX d t)=false:=by
 induction h with
 | @stop t hb =>
   intro n _;refine⟨?_,hb⟩
   cases n with
   |zero=>rfl
   |succ n=>show s.bX (n+1) t=t;unfold Store.bX;rw[hb];rfl
 | @step t d hb h1 ih =>
   intro n hn
   cases n with
   |zero=>omega
   | succ n =>
     have:=ih n (by omega)
     have e1:∀ m,s.bX (m+1) t=s.bX m (s.to t):=fun m=>by
      show (if s.bound t=true then _ else _)=_;rw[if_pos hb]
     grind
theorem Fin.walk{s:Store}{t:Ty}(h:s.Fin t):s.bound (s.w16 t)=false/\s.w t=s.w16 t:=by
 obtain⟨d,hd⟩:=h.ends;have h1:=hd.walk (s.slots.length+1) (by have:=hd.le;omega);have h2:=hd.walk s.slots.length hd.le
 simp_all [w16,w]
theorem Fin.bX{s:Store}:∀ (n:Nat) {t:Ty},s.Fin t->s.Fin (s.bX n t):=by
 intro n
 induction n with
 |zero=>intro t h;exact h
 | succ n ih =>
   intro t h;unfold Store.bX;split
   . rename_i hb;exact ih (h.to hb)
   . exact h
end Store
end Go.J
/- The search for type variables finds all of them. -/
namespace Go.J
open Enc (enc)
inductive Qp:Ty->Ty->Prop
 |self {t:Ty}:t.kind=1->Qp t t
 |arg {t u x:Ty}:t.kind≠1->x∈t.args->Qp u x->Qp u t
theorem Qp.kind{u t:Ty}(h:Qp u t):u.kind=1:=by
 induction h with
 |self h=>exact h
 |arg _ _ _ ih=>exact ih
theorem Qp.var{u t:Ty}(h:Qp u t)(hk:t.kind=1):u=t:=by
 cases h with
 |self _=>rfl
 |arg h _ _=>exact absurd hk h
namespace Store
abbrev St:=List Int×List Bool
def zsv(s:Store)(st:St)(t:Ty):Prop:=∀ u,Qp u t->(s.bound u=true->st.2[u.id.toNat]?=some true)/\(s.bound u=false->u.id∈st.1)
def Inv(s:Store)(st:St)(G:List Nat):Prop:=∀ (i:Nat) (x:Slot),s.slots[i]?=some x->x.bound=true->st.2[i]?=some true->i ∉ G->s.zsv st x.type
structure IQ(st st':St):Prop where
 out:∀ v∈st.1,v∈st'.1
 done:∀ i:Nat,st.2[i]?=some true->st'.2[i]?=some true
 len:st'.2.length=st.2.length
theorem IQ.refl{st:St}:IQ st st:=⟨fun _ h=>h,fun _ h=>h,rfl⟩
theorem IQ.trans{a b c:St}(h:IQ a b)(k:IQ b c):IQ a c:=⟨fun v hv=>k.out v (h.out v hv),fun i hi=>k.done i (h.done i hi),k.len.trans h.len⟩
theorem zsv.mono{s:Store}{st st':St}{t:Ty}(h:s.zsv st t)(m:IQ st st'):s.zsv st' t:=fun u hu=>⟨fun hb=>m.done _ ((h u hu).1 hb),fun hb=>m.out _ ((h u hu).2 hb)⟩
theorem Inv.mono{s:Store}{st st':St}{G:List Nat}(h:s.Inv st G)(m:IQ st st')(hd:∀ i,st'.2[i]?=some true->i ∉ G->st.2[i]?=some true):s.Inv st' G :=
 fun i x hx hb hi hG=>(h i x hx hb (hd i hi hG) hG).mono m
structure zNr(s:Store)(P:Int->Prop)(G:List Nat)(st st':St):Prop where
 mono:IQ st st'
 inv:s.Inv st' G
 out:∀ v∈st'.1,v∈st.1\/P v
 und:J.und s.slots st'.2<=J.und s.slots st.2
theorem zmY{s:Store}{P:Int->Prop}{f:Nat}{G:List Nat}(ih:∀ (t:Ty) (st:St),(∀ u,Qp u t->P u.id)->t.size+J.und s.slots st.2<=f->st.2.length=s.slots.length->s.Inv st G->zNr s P G st (pY s f t st)/\s.zsv (pY s f t st) t) :
 ∀ (l:List Ty) (st:St),(∀ x∈l,∀ u,Qp u x->P u.id)->Ty.sizes l+J.und s.slots st.2<=f->st.2.length=s.slots.length->s.Inv st G ->
   zNr s P G st (l.foldl (fun st x=>pY s f x st) st)/\∀ x∈l,s.zsv (l.foldl (fun st x=>pY s f x st) st) x:=by
 intro l
 induction l with
 |nil=>intro st _ _ _ hi;exact⟨⟨.refl,hi,fun v hv=>.inl hv,Nat.le_refl _⟩,fun x hx=>by cases hx⟩
 | cons a l ihl =>
   intro st hP hf hl hi;simp only[Ty.sizes]at hf;obtain⟨h1,h2⟩:=ih a st (hP a (List.mem_cons_self ..)) (by omega) hl hi;have h1u:=h1.und;obtain⟨h3,h4⟩:=ihl (pY s f a st) (fun x hx=>hP x (List.mem_cons_of_mem _ hx)) (by omega) (h1.mono.len.trans hl) h1.inv;rw[List.foldl_cons];refine⟨⟨h1.mono.trans h3.mono,h3.inv,fun v hv=>?_,Nat.le_trans h3.und h1.und⟩,fun x hx=>?_⟩
   . rcases h3.out v hv with h|h
     . exact h1.out v h
     . exact .inr h
   . rcases List.mem_cons.1 hx with rfl|hx
     . exact h2.mono h3.mono
     . exact h4 x hx
theorem zmX {s:Store} {P:Int->Prop} (hP:∀ x∈s.slots,x.bound=true->∀ u,Qp u x.type->P u.id):∀ (f:Nat) (G:List Nat) (t:Ty) (st:St),(∀ u,Qp u t->P u.id)->t.size+J.und s.slots st.2<=f->st.2.length=s.slots.length->s.Inv st G ->
 zNr s P G st (pY s f t st)/\s.zsv (pY s f t st) t:=by
 intro f
 induction f with
 |zero=>intro G t st _ hf;have:=Ty.size_pos t;omega
 | succ f ih =>
   intro G t st zOJ hf hl hi;have hsz:=Ty.size_pos t;rw[pY];split
   . rename_i hk;split
     . rename_i hb;obtain⟨_,i,x,hid,hil,hx,hxb,hto⟩:=gG hb;have zu7:t.id.toNat=i:=by rw[hid];rfl
       rw[zu7,hto];split
       . rename_i hd;have h1:=Fu hx hd
         have m1:IQ st (st.1,st.2.set i true):=⟨fun _ h=>h,fun j hj=>by
          rw[List.getElem?_set];split
          . rename_i e;subst e;rw[if_pos (by rw[hl];exact hil)]
          . exact hj,by simp⟩
         have hi1:s.Inv (st.1,st.2.set i true) (i::G):=fun j y hy hyb hj hG=>by
          have hne:j≠i:=fun e=>hG (by simp[e])
          have hj':st.2[j]?=some true:=by
           grind
          exact(hi j y hy hyb hj' fun h=>hG (List.mem_cons_of_mem _ h)).mono m1
         obtain⟨r1,r2⟩:=ih (i::G) x.type (st.1,st.2.set i true) (hP x (List.mem_of_getElem? hx) hxb) (by simp only;omega) (by simp[hl]) hi1;have hdi:(pY s f x.type (st.1,st.2.set i true)).2[i]?=some true:=r1.mono.done i (by simp[hl,hil]);refine⟨⟨m1.trans r1.mono,fun j y hy hyb hj hG=>?_,r1.out,by have:=r1.und;simp only at this;omega⟩,fun u hu=>?_⟩
         . by_cases e:j=i
           . grind
           . exact r1.inv j y hy hyb hj (by simp[e,hG])
         . rw[hu.var hk,zu7]
           grind
       . rename_i hd;refine⟨⟨.refl,hi,fun v hv=>.inl hv,Nat.le_refl _⟩,fun u hu=>?_⟩;rw[hu.var hk,zu7]
         simp_all
     . rename_i hb;have hb':s.bound t=false:=by cases h:s.bound t with|true=>exact absurd h hb|false=>rfl
       split
       . rename_i hm;refine⟨⟨.refl,hi,fun v hv=>.inl hv,Nat.le_refl _⟩,fun u hu=>?_⟩;rw[hu.var hk]
         grind
       . have m1:IQ st (st.1++[t.id],st.2):=⟨fun v hv=>List.mem_append_left _ hv,fun j hj=>hj,rfl⟩;refine⟨⟨m1,hi.mono m1 fun j hj _=>hj,fun v hv=>?_,Nat.le_refl _⟩,fun u hu=>?_⟩
         . rcases List.mem_append.1 hv with h|h
           . exact .inl h
           . rw[List.mem_singleton.1 h];exact .inr (zOJ t (.self hk))
         . rw[hu.var hk]
           grind
   . rename_i hk;have hse:=Ty.size_eq t;obtain⟨h1,h2⟩:=zmY (fun t st=>ih G t st) t.args st (fun x hx u hu=>zOJ u (.arg hk hx hu)) (by omega) hl hi;refine⟨h1,fun u hu=>?_⟩
     cases hu with
     |self h=>exact absurd h hk
     |arg _ hx zCM=>exact h2 _ hx u zCM
end Store
end Go.J
/- Stores that tapes make: ML and Us keep them. -/
namespace Go.J
open Enc (enc)
structure bT(n S:Nat)(t:Ty):Prop where
 ok:t.ok=true
 plain:t.ay=true
 size:t.size<=S
 vars:∀ u,Qp u t->0<=u.id/\u.id<n
theorem bT.arg{n S:Nat}{t x:Ty}(h:bT n S t)(hx:x∈t.args):bT n S x:=by
 have hp:=bN.1 (bS h.plain) x hx;refine⟨Ty.mH h.ok hx,hp,by have:=Ty.pG hx;have:=h.size;omega,fun u hu=>h.vars u (.arg (fun hk=>?_) hx hu)⟩;have:=bg h.plain hk;rw[this]at hx;cases hx
theorem bT.CX{n S:Nat}{t:Ty}(h:bT n S t)(hk:t.kind=1):t.args=[]:=by
 have:=bg h.plain hk;rw[this];rfl
theorem bT.le{n S S':Nat}{t:Ty}(h:bT n S t)(hS:S<=S'):bT n S' t:=⟨h.ok,h.plain,Nat.le_trans h.size hS,h.vars⟩
theorem bT.var{n S i:Nat}(hi:i<n)(hS:1<=S):bT n S (aM (i:Int)):=by
 refine⟨Ty.ky.2 ⟨Nat.zero_le _,fun x hx=>by cases hx⟩,eu _,by show (aM (i:Int)).size<=S;rw[Ty.size_eq];exact hS,fun u hu=>?_⟩;rw[hu.var rfl]
 simp_all [aM]
namespace Store
structure bM(n S:Nat)(s:Store):Prop where
 len:s.slots.length=n
 types:∀ x∈s.slots,if x.bound=true then bT n S x.type else x.type=Nv
 fin:∀ i,i<n->s.Fin (aM (i:Int))
def ll(s:Store):Nat:=s.slots.countP fun x=>!x.bound
section
variable {n S:Nat}{s:Store}
theorem bM.to(h:bM n S s){t:Ty}(hb:s.bound t=true):bT n S (s.to t):=by
 obtain⟨_,i,x,_,_,hx,hxb,hto⟩:=gG hb;have:=h.types x (List.mem_of_getElem? hx)
 grind
theorem bM.dF(h:bM n S s)(hn:n<=1000):s.dF:=⟨by rw[h.len];exact hn,fun x hx=>by
 have:=h.types x hx;split at this
 . exact this.ok
 . rw[this];rfl⟩
theorem bM.nJ(h:bM n S s){S':Nat}(t:Ty):bT n S' t->s.Fin t:=by
 induction t using Ty.ind with
 | h t ih =>
   intro ht;by_cases hk:t.kind=1
   . have e:=bg ht.plain hk;obtain⟨h0,h1⟩:=ht.vars t (.self hk);obtain⟨i,hi⟩:=Int.eq_ofNat_of_zero_le h0;rw[e,hi];exact h.fin i (by omega)
   . refine Fin.zqA ?_ fun u hu=>ih u hu (ht.arg hu)
     cases hb:s.bound t with
     |false=>rfl
     |true=>exact absurd (ng hb) hk
theorem bM.bX(h:bM n S s){S':Nat}(hS:S<=S'):∀ (k:Nat) {t:Ty},bT n S' t->bT n S' (s.bX k t):=by
 intro k
 induction k with
 |zero=>intro t ht;exact ht
 | succ k ih =>
   intro t ht;unfold Store.bX;split
   . rename_i hb;exact ih ((h.to hb).le hS)
   . exact ht
theorem zs7{l:List Slot}{b:Nat}(h:∀ x∈l,x.type.size<=b):∀ m:List Bool,J.und l m<=l.length*b:=by
 induction l with
 |nil=>intro m;simp[J.und]
 | cons x l ih =>
   intro m
   cases m with
   |nil=>simp[J.und]
   | cons c m =>
     have h1:=ih (fun x hx=>h x (List.mem_cons_of_mem _ hx)) m;have h2:=h x (List.mem_cons_self ..);simp only[J.und,List.length_cons,Nat.succ_mul];split<;>omega
theorem bM.und(h:bM n S s)(hS:1<=S)(m:List Bool):J.und s.slots m<=n*S:=by
 have:=zs7 (l:=s.slots) (b:=S) (fun x hx=>by
  have:=h.types x hx;split at this
  . exact this.size
  . rw[this];exact hS) m
 rw[h.len]at this;exact this
theorem bM.vars (h:bM n S s) (hS:1<=S) {S':Nat} {t:Ty} (ht:bT n S' t) (hb:n*S+S'<=100000) :
 (∀ v∈dz s [t],0<=v/\v<n)/\(dz s [t]).length<=n*S+S'/\∀ id:Int,s.bound (aM id)=false->s.Reach id t->id∈dz s [t]:=by
 have hu:=h.und hS (List.replicate s.slots.length false);have hsz:=ht.size
 have key:=zmX (s:=s) (P:=fun v=>0<=v/\v<n) (fun x hx hxb u hu=>by
  have:=h.types x hx;rw[if_pos hxb]at this
  exact this.vars u hu) 100000 [] t (([]:List Int),List.replicate s.slots.length false) ht.vars (by simp only;omega) (by simp) (fun i x _ _ hi=>by
   simp only[List.getElem?_replicate]at hi
   split at hi<;>cases hi)
 obtain⟨r1,r2⟩:=key;have hlen:=(Co s 100000 t (([]:List Int),List.replicate s.slots.length false)).2.2.2;unfold dz;simp only[List.foldl_cons,List.foldl_nil];generalize pY s 100000 t (([]:List Int),List.replicate s.slots.length false)=st at r1 r2 hlen;refine⟨fun v hv=>?_,?_,fun id hid hr=>?_⟩
 . rcases r1.out v hv with h|h
   . cases h
   . exact h
 . simp only[List.length_nil]at hlen;omega
 . have walk:∀ u,s.Reach id u->(∃ m,bT n m u)->s.zsv st u->id∈st.1:=by
    intro u hu
    induction hu with
    | here hk he =>
      intro _ hc;have:=(hc _ (.self hk)).2;rw[he]at this;refine this ?_
      cases hb:s.bound _ with
      |false=>rfl
      | true =>
        have:=(IA hb (u:=aM id) rfl (by rw[he];rfl)).1;rw[hid]at this;cases this
    | to hb _ ih =>
      intro _ hc;have hk:=ng hb;have hd:=(hc _ (.self hk)).1 hb;obtain⟨_,i,x,hi,hil,hx,hxb,hto⟩:=gG hb;refine ih ⟨S,h.to hb⟩ ?_;rw[hto];exact r1.inv i x hx hxb (by rw[hi]at hd;exact hd) (by simp)
    | arg hb hx _ ih =>
      intro hm hc;obtain⟨m,hm⟩:=hm
      have hk:¬ _:=fun hk=>by
       have:=hm.CX hk;rw[this]at hx;cases hx
      exact ih ⟨m,hm.arg hx⟩ fun u hu=>hc u (.arg hk hx hu)
   exact walk t hr ⟨S',ht⟩ r2
end
end Store
end Go.J
/- zJk and Us keep stores iW. -/
namespace Go.J
open Enc (enc)
namespace Store
def bt(x:Slot):Bool×Ty:=(x.bound,x.type)
def gm(s s':Store):Prop:=s'.slots.map bt=s.slots.map bt
section
variable {s s':Store}
theorem gm.refl:gm s s:=rfl
theorem gm.trans{a b c:Store}(h:gm a b)(k:gm b c):gm a c:=Eq.trans k h
theorem gm.len(h:gm s s'):s'.slots.length=s.slots.length:=by
 have:=congrArg List.length h
 grind
theorem gm.at(h:gm s s')(i:Nat):(s'.slots[i]?).map bt=(s.slots[i]?).map bt:=by
 have:=congrArg (fun l=>l[i]?) h;simpa using this
theorem gm.slot(h:gm s s')(id:Int):(s'.slot? id).map bt=(s.slot? id).map bt:=by
 unfold slot?;split
 . exact h.at _
 . rfl
theorem gm.bound(h:gm s s')(u:Ty):s'.bound u=s.bound u:=by
 have h1:=h.slot u.id;unfold Store.bound;cases h2:s'.slot? u.id<;>cases h3:s.slot? u.id<;>rw[h2,h3]at h1
 . cases h1
 . cases h1
 . have:bt _=bt _:=Option.some.inj h1;unfold bt at this;rw[Prod.mk.injEq]at this;cases decide (u.kind=1)<;>simp[this.1]
theorem gm.to(h:gm s s')(u:Ty):s'.to u=s.to u:=by
 have h1:=h.slot u.id;unfold Store.to
 grind [bt,Option.some.inj,Prod.mk.injEq]
theorem gm.fin(h:gm s s'){u:Ty}(hu:s.Fin u):s'.Fin u:=by
 refine Store.Fin.ind (p:=s'.Fin) (fun t hb ih=>?_) (fun t hb ih=>?_) hu
 . exact .zus ((h.bound t).trans hb) (by rw[h.to];exact ih)
 . exact .zqA ((h.bound t).trans hb) ih
theorem gm.reach(h:gm s s'){id:Int}{u:Ty}(hr:s'.Reach id u):s.Reach id u:=by
 induction hr with
 |here a b=>exact .here a b
 |to a _ ih=>rw[h.to]at ih;exact .to (by rw[<- h.bound];exact a) ih
 |arg a b _ ih=>exact .arg (by rw[<- h.bound];exact a) b ih
theorem gm.mem(h:gm s s'){x:Slot}(hx:x∈s'.slots):∃ y∈s.slots,y.bound=x.bound/\y.type=x.type:=by
 have:bt x∈s.slots.map bt:=by rw[<- h];exact List.mem_map.2 ⟨x,hx,rfl⟩
 grind [bt,Prod.mk.injEq]
theorem gm.iW(h:gm s s'){n S:Nat}(ht:bM n S s):bM n S s':=by
 refine⟨h.len.trans ht.len,fun x hx=>?_,fun i hi=>h.fin (ht.fin i hi)⟩;obtain⟨y,hy,e1,e2⟩:=h.mem hx;have:=ht.types y hy
 grind
theorem gm.ll(h:gm s s'):s'.ll=s.ll:=by
 unfold Store.ll;have e:∀ l:List Slot,l.countP (fun x=>!x.bound)=(l.map bt).countP fun p=>!p.1:=fun l=>by rw[List.countP_map];rfl
 rw[e,e,h]
end
theorem eX{s:Store}{i:Nat}{x:Slot}(hi:i<s.slots.length):s.set (i:Int) x=(⟨s.slots.set i x,s.trail++[⟨(i:Int),s.slots[i],false⟩]⟩,true):=by
 unfold Store.set;rw[slot?_nat,List.getElem?_eq_getElem hi];rfl
theorem eD{s:Store}{i:Nat}(hi:i<s.slots.length):s.aJ (i:Int)=s.slots[i]:=by
 unfold aJ;rw[slot?_nat,List.getElem?_eq_getElem hi];rfl
theorem NW{s:Store}{i:Nat}{x:Slot}(hi:i<s.slots.length)(hb:x.bound=s.slots[i].bound)(ht:x.type=s.slots[i].type):gm s (s.set (i:Int) x).1:=by
 rw[eX hi];show (s.slots.set i x).map bt=_
 grind [List.map_set,bt,List.set_getElem_self]
theorem yx{s:Store}{i:Nat}{x:Slot}(hi:i<s.slots.length):(s.set (i:Int) x).1.trail.length=s.trail.length+1:=by rw[eX hi];simp
theorem znD{s:Store}{i:Nat}{x:Slot}(hi:i<s.slots.length)(hb:x.bound=true):zFN s (s.set (i:Int) x).1 (i:Int) x.type:=by
 rw[eX hi]
 have hs:∀ id:Int,(⟨s.slots.set i x,s.trail++[⟨(i:Int),s.slots[i],false⟩]⟩:Store).slot? id=if id=(i:Int)then some x else s.slot? id:=by
  intro id;unfold slot?
  grind
 constructor
 . intro u hu;by_cases hk:u.kind=1
   . have hne:¬ u.id=(i:Int):=fun e=>hu ⟨hk,e⟩
     refine⟨?_,fun _=>?_⟩
     . unfold Store.bound;rw[hs,if_neg hne]
     . unfold Store.to;rw[hs,if_neg hne]
   grind [ng]
 . intro u hk hid;refine⟨?_,?_⟩
   . unfold Store.bound;rw[hs,if_pos hid,decide_eq_true hk];exact hb
   . unfold Store.to;rw[hs,if_pos hid]
theorem TH{s:Store}{i:Nat}{x:Slot}(hi:i<s.slots.length)(hb:x.bound=true)(h0:s.slots[i].bound=false):(s.set (i:Int) x).1.ll+1=s.ll:=by
 rw[eX hi];unfold ll
 grind
theorem NV{n S:Nat}{s:Store}(h:bM n S s){i:Nat}{x:Slot}(hi:i<n)(hb:x.bound=true)(ht:bT n S x.type)(h0:s.bound (aM (i:Int))=false)(hr:¬ s.Reach (i:Int) x.type):bM n S (s.set (i:Int) x).1:=by
 have hil:i<s.slots.length:=by rw[h.len];exact hi
 have hu:=znD (s:=s) (x:=x) hil hb;refine⟨by rw[eX hil];simp[h.len],fun y hy=>?_,fun j hj=>hu.fin (h.nJ _ ht) hr (h.fin j hj)⟩;rw[eX hil]at hy;rcases List.mem_or_eq_of_mem_set hy with hy|rfl
 . exact h.types y hy
 grind
theorem G7{s:Store}(home:Int){v:Int}(h0:0<=v):gm s (bf home s v)/\(bf home s v).trail.length<=s.trail.length+1:=by
 unfold bf;split
 . rename_i h;obtain⟨i,rfl⟩:=Int.eq_ofNat_of_zero_le h0;have hi:i<s.slots.length:=by omega
   refine⟨NW hi ?_ ?_,by rw[yx hi];exact Nat.le_refl _⟩
   . rw[eD hi]
   . rw[eD hi]
 . exact⟨.refl,Nat.le_succ _⟩
theorem pM(home:Int):∀ (l:List Int) (s:Store),(∀ v∈l,0<=v)->gm s (l.foldl (bf home) s)/\(l.foldl (bf home) s).trail.length<=s.trail.length+l.length:=by
 intro l
 induction l with
 |nil=>intro s _;exact⟨.refl,Nat.le_refl _⟩
 | cons v l ih =>
   intro s h;have h1:=G7 (s:=s) home (h v (List.mem_cons_self ..));have h2:=ih (bf home s v) fun w hw=>h w (List.mem_cons_of_mem _ hw)
   rw[List.foldl_cons,List.length_cons];exact⟨h1.1.trans h2.1,by omega⟩
structure Step(n S:Nat)(s s':Store):Prop where
 iW:bM n S s'
 trail:s'.trail.length+(n*S+S+2)*s'.ll<=s.trail.length+(n*S+S+2)*s.ll
 less:s'=s\/s'.ll<s.ll
theorem Step.refl{n S:Nat}{s:Store}(h:bM n S s):Step n S s s:=⟨h,Nat.le_refl _,.inl rfl⟩
theorem Step.trans{n S:Nat}{a b c:Store}(h:Step n S a b)(k:Step n S b c):Step n S a c:=by
 refine⟨k.iW,Nat.le_trans k.trail h.trail,?_⟩;rcases h.less with rfl|h1
 . exact k.less
 . rcases k.less with rfl|h2
   . exact .inr h1
   . exact .inr (Nat.lt_trans h2 h1)
theorem Step.mk'{n S:Nat}{s s':Store}(h:bM n S s')(hu:s'.ll+1=s.ll)(ht:s'.trail.length<=s.trail.length+(n*S+S+2)):Step n S s s':=by
 refine⟨h,?_,.inr (by omega)⟩;rw[<- hu,Nat.mul_add,Nat.mul_one];omega
theorem yT{n S:Nat}{s:Store}(h:bM n S s)(hS:1<=S)(hn:n*S+S<=100000){i:Nat}(hi:i<n)(h0:s.bound (aM (i:Int))=false){t:Ty}(ht:bT n S t):Step n S s (s.bindM (i:Int) t).1:=by
 obtain⟨v1,v2,v3⟩:=h.vars hS ht hn;unfold bindM;split
 . exact .refl h
 rename_i hm;split
 . exact .refl h
 split
 . exact .refl h
 split
 . exact .refl h
 have hl:=pM (s.aJ (i:Int)).home (dz s [t]) s fun v hv=>(v1 v hv).1
 generalize (dz s [t]).foldl (bf (s.aJ (i:Int)).home) s=s1 at hl;have t1:=hl.1.iW h;have hil:i<s1.slots.length:=by rw[t1.len];exact hi
 have ZP:i<s.slots.length:=by rw[h.len];exact hi
 have hb1:s1.bound (aM (i:Int))=false:=by rw[hl.1.bound];exact h0
 have hr:¬ s1.Reach (i:Int) t:=by
  exact fun hr=>hm (v3 (i:Int) h0 (hl.1.reach hr))
 have hsb:s1.slots[i].bound=false:=by
  have e:=j6 (s:=s1) (t:=aM (i:Int)) rfl (by show s1.slot? (i:Int)=some s1.slots[i];rw[slot?_nat];exact List.getElem?_eq_getElem hil)
  grind
 refine Step.mk' (NV t1 hi rfl ht hb1 hr) ?_ ?_
 . rw[TH hil rfl hsb,hl.1.ll]
 grind [yx]
theorem join_step{n S:Nat}{s:Store}(h:bM n S s)(hS:1<=S){i j:Nat}(hi:i<n)(hj:j<n)(h1:s.bound (aM (i:Int))=false)(h2:s.bound (aM (j:Int))=false):Step n S s (s.join (i:Int) (j:Int)):=by
 unfold join;split
 . exact .refl h
 rename_i hne;have hm:min (i:Int) (j:Int)=((min i j:Nat):Int):=by omega
 have hM:max (i:Int) (j:Int)=((max i j:Nat):Int):=by omega
 have hlo:min i j<n:=by omega
 have hhi:max i j<n:=by omega
 have hlt:min i j≠max i j:=by omega
 have hbl:s.bound (aM ((min i j:Nat):Int))=false:=by
  grind
 have zOH:s.bound (aM ((max i j:Nat):Int))=false:=by
  grind
 unfold joinL xE;rw[hm,hM];generalize min i j=lo at hlo hlt hbl;generalize max i j=hi2 at hhi hlt zOH;have RN:lo<s.slots.length:=by rw[h.len];exact hlo
 have hsame:=NW (s:=s) (i:=lo) (x:={ s.aJ (lo:Int)with home:=min (s.aJ (lo:Int)).home (s.aJ (hi2:Int)).home,base:=(s.aJ (lo:Int)).base||(s.aJ (hi2:Int)).base }) RN (by rw[eD RN]) (by rw[eD RN]);have htr:=yx (s:=s) (i:=lo) (x:={ s.aJ (lo:Int)with home:=min (s.aJ (lo:Int)).home (s.aJ (hi2:Int)).home,base:=(s.aJ (lo:Int)).base||(s.aJ (hi2:Int)).base }) RN;generalize (s.set (lo:Int) { s.aJ (lo:Int)with home:=min (s.aJ (lo:Int)).home (s.aJ (hi2:Int)).home,base:=(s.aJ (lo:Int)).base||(s.aJ (hi2:Int)).base }).1=s1 at hsame htr;have t1:=hsame.iW h;have hil:hi2<s1.slots.length:=by rw[t1.len];exact hhi
 have hb1:s1.bound (aM (hi2:Int))=false:=by rw[hsame.bound];exact zOH
 have hb2:s1.bound (aM (lo:Int))=false:=by rw[hsame.bound];exact hbl
 have hr:¬ s1.Reach (hi2:Int) (aM (lo:Int)):=by
  intro hr
  cases hr with
  |here _ e=>simp[aM]at e;omega
  |to hb _=>rw[hb2]at hb;cases hb
  |arg _ hx _=>cases hx
 have hsb:s1.slots[hi2].bound=false:=by
  have e:=j6 (s:=s1) (t:=aM (hi2:Int)) rfl (by show s1.slot? (hi2:Int)=some s1.slots[hi2];rw[slot?_nat];exact List.getElem?_eq_getElem hil)
  grind
 refine Step.mk' (NV t1 hhi rfl (bT.var hlo hS) hb1 hr) ?_ ?_
 . rw[TH hil rfl hsb,hsame.ll]
 grind [yx]
end Store
end Go.J
/- The fQ unification comes to an end,and keeps stores iW. -/
namespace Go.J
open Enc (enc)
theorem znR {w:Ty->Ty} (hw:∀ t,t.ok=true->(w t).ok=true):∀ (f:Nat) (t r:Ty),wV w f t=some r->t.ok=true->r.ok=true:=by
 intro f
 induction f with
 |zero=>intro t r h;cases h
 | succ f ih =>
   intro t r h ht;rw[wV]at h;split at h
   . rename_i l hl;cases h;have h1:=Ty.ky.1 (hw t ht)
     have key:∀ (a m:List Ty),uG (wV w f) a=some m->(∀ x∈a,x.ok=true)->m.length=a.length/\∀ x∈m,x.ok=true:=by
      intro a
      induction a with
      |nil=>intro m h _;cases h;exact⟨rfl,fun x hx=>by cases hx⟩
      | cons x a iha =>
        intro m hm hx;unfold uG at hm
        grind
     obtain⟨h5,h6⟩:=key _ _ hl h1.2;exact Ty.ky.2 ⟨by rw[Ty.cZ,h5];exact h1.1,h6⟩
   . cases h
namespace Store
theorem vG{s:Store}(hs:s.dF){t:Ty}(ht:t.ok=true):(bK s.w16 t).1.ok=true/\(bK s.w16 t).1.size<=10000:=by
 unfold bK;split
 . rename_i h;obtain⟨r,⟨f,hr⟩,hsz⟩:=gp.1 h;have hr':Rz s.w16 t r:=⟨f,hr⟩;simp only[full_of hr'];exact⟨znR (fun t ht=>lL hs _ ht) f t r hr ht,by omega⟩
 . exact⟨rfl,by decide⟩
def room(n S:Nat)(s:Store):Nat:=s.trail.length+(n*S+S+2)*s.ll
section
variable {n S:Nat}{s:Store}
theorem bM.qX(h:bM n S s)(hS:1<=S)(hn:n*S+S<=90000)(hn2:n<=1000){t:Ty}(ht:bT n S t)(hu:1<=s.ll)(hr:room n S s<=990):s.qX t:=by
 obtain⟨v1,v2,_⟩:=h.vars hS ht (by omega);have h1:=h.und hS (List.replicate s.slots.length false);have h2:=ht.size;refine⟨⟨h.dF hn2,Ty.gT.2 (by simp[ht.ok]),by simp,by simp only[Ty.sizes];omega⟩,fun x hx=>(v1 x hx).1,?_,vG (h.dF hn2) ht.ok⟩;unfold room at hr;have h3:(n*S+S+2)*1<=(n*S+S+2)*s.ll:=Nat.mul_le_mul_left _ hu;omega
theorem bM.slot(h:bM n S s){x:Ty}(hx:bT n S x)(hs:s.bG x=true)(hb:s.bound x=false):∃ i:Nat,i<n/\x=aM (i:Int)/\x.id=(i:Int)/\s.bound (aM (i:Int))=false/\1<=s.ll:=by
 unfold bG at hs;simp only[Bool.and_eq_true,decide_eq_true_eq]at hs;obtain⟨h0,h1⟩:=hx.vars x (.self hs.1);obtain⟨i,hi⟩:=Int.eq_ofNat_of_zero_le h0;have e:=bg hx.plain hs.1;rw[hi]at e;refine⟨i,by omega,e,hi,by rw[<- e];exact hb,?_⟩;have hil:i<s.slots.length:=by rw[h.len];omega
 have e2:=j6 (s:=s) (t:=x) hs.1 (by rw[hi,slot?_nat];exact List.getElem?_eq_getElem hil);rw[hb]at e2;unfold ll
 grind
def need(s:Store)(a:Ty):Nat:=s.ll*202+sz s.w16 a 200
theorem yt{a:Ty}(h:sz s.w16 a 200<=200):∀ x∈(s.w16 a).args,sz s.w16 x 200<sz s.w16 a 200:=by
 intro x hx;obtain⟨r,hr,hs⟩:=gp.1 h;obtain⟨l,hl,e⟩:=gH.1 hr;obtain⟨y,hy,hys⟩:=hl.pF x hx;have e1:r.size=Ty.sizes l+1:=by rw[e,Ty.size_eq];rfl
 rw[yo hy,yo hr];omega
theorem znk {d:Nat} {rec:Store->Ty->Ty->Store×Int} (hrec:∀ s a b,bM n S s->bT n S a->bT n S b->need s a<d->Step n S s (rec s a b).1) {s0:Store} {k:Nat} (hk:s0.ll*202+k<=d) (hk2:201<202) :
 ∀ (l m:List Ty) (s:Store),(∀ x∈l,bT n S x/\sz s0.w16 x 200<k)->(∀ x∈m,bT n S x)->bM n S s->(s=s0\/s.ll<s0.ll)->Step n S s (uL rec l m s).1:=by
 intro l
 induction l with
 |nil=>intro m s _ _ h _;exact .refl h
 | cons x l ih =>
   intro m s hl hm h hs
   cases m with
   |nil=>exact .refl h
   | cons y m =>
     have hx:=hl x (List.mem_cons_self ..)
     have hn:need s x<d:=by
      unfold need;have:=zu (w:=s.w16) x 200;rcases hs with rfl|hs
      . omega
      . have:s.ll*202+202<=s0.ll*202:=by omega
        omega
     have h1:=hrec s x y h hx.1 (hm y (List.mem_cons_self ..)) hn;rw[uL];split
     . refine h1.trans (ih m _ (fun z hz=>hl z (List.mem_cons_of_mem _ hz)) (fun z hz=>hm z (List.mem_cons_of_mem _ hz)) h1.iW ?_);rcases h1.less with e|h2
       . rw[e];exact hs
       . rcases hs with rfl|hs
         . exact .inr h2
         . exact .inr (Nat.lt_trans h2 hs)
     . exact h1
theorem kH (hS:1<=S) (hn:n*S+S<=90000):∀ (d:Nat) (s:Store) (a b:Ty),bM n S s->bT n S a->bT n S b->need s a<d->Step n S s (dC d s a b).1:=by
 intro d
 induction d with
 |zero=>intro s a b _ _ _ h;omega
 | succ d ih =>
   intro s a b h ha hb hd;have jg:bT n S (s.w16 a):=h.bX (Nat.le_refl S) (s.slots.length+1) ha;have hwb:bT n S (s.w16 b):=h.bX (Nat.le_refl S) (s.slots.length+1) hb;have fa:=(h.nJ _ ha).walk.1;have fb:=(h.nJ _ hb).walk.1;rw[dC];unfold rM;split
   . exact .refl h
   rename_i hsz;split
   . rename_i s1;obtain⟨i,hi,e1,zr0,b1,_⟩:=h.slot jg s1 fa;split
     . rename_i s2;obtain⟨j,hj,e2,e2',b2,_⟩:=h.slot hwb s2 fb
       grind [join_step]
     grind [yT]
   . split
     . rename_i s2;obtain⟨j,hj,e2,e2',b2,_⟩:=h.slot hwb s2 fb;rw[e2'];exact yT h hS (by omega) hj b2 jg
     . split
       . exact .refl h
       . unfold need at hd;exact znk (s0:=s) (k:=sz s.w16 a 200) ih (by omega) (by omega) _ _ s (fun x hx=>⟨jg.arg hx,yt (by omega) x hx⟩) (fun x hx=>hwb.arg hx) h (.inl rfl)
structure zFQ(S:Nat)(s:Store)(a b:Ty):Prop where
 iW:bM s.slots.length S s
 left:bT s.slots.length S a
 right:bT s.slots.length S b
 room:Store.room s.slots.length S s<=990
open Classical in
def uF(S d:Nat)(s:Store)(a b:Ty):Option (Store×Int):=if s.slots.length*S+S<=90000/\s.slots.length<=1000/\zFQ S s a b/\need s a<d then some (dC d s a b)else none
theorem Step.room{s':Store}(h:Step n S s s'):Store.room n S s'<=Store.room n S s:=h.trail
theorem zAW {d:Nat} (hS:1<=S) (hn:n*S+S<=90000) (hn2:n<=1000) {s0:Store} {k:Nat} (hk:s0.ll*202+k<=d) :
 ∀ (l m:List Ty) (s:Store),(∀ x∈l,bT n S x/\sz s0.w16 x 200<k)->(∀ x∈m,bT n S x)->bM n S s->Store.room n S s<=990->(s=s0\/s.ll<s0.ll)->zxe (uF S d) (dC d) l m s:=by
 intro l
 induction l with
 |nil=>intro m s _ _ _ _ _;trivial
 | cons x l ih =>
   intro m s hl hm h hr hs
   cases m with
   |nil=>trivial
   | cons y m =>
     have hx:=hl x (List.mem_cons_self ..);have hy:=hm y (List.mem_cons_self ..)
     have hnd:need s x<d:=by
      unfold need;have:=zu (w:=s.w16) x 200;rcases hs with rfl|hs
      . omega
      . have:s.ll*202+202<=s0.ll*202:=by omega
        omega
     have h1:=kH hS hn d s x y h hx.1 hy hnd;have hlen:=h.len;refine⟨if_pos ⟨by rw[hlen];exact hn,by rw[hlen];exact hn2,⟨by rw[hlen];exact h,by rw[hlen];exact hx.1,by rw[hlen];exact hy,by rw[hlen];exact hr⟩,hnd⟩,fun _=>?_⟩;refine ih m _ (fun z hz=>hl z (List.mem_cons_of_mem _ hz)) (fun z hz=>hm z (List.mem_cons_of_mem _ hz)) h1.iW (Nat.le_trans h1.room hr) ?_;rcases h1.less with e|h2
     . rw[e];exact hs
     . rcases hs with rfl|hs
       . exact .inr h2
       . exact .inr (Nat.lt_trans h2 hs)
structure zNs(S d:Nat)(s:Store)(a b:Ty):Prop where
 YW:s.dF
 trail:s.trail.length<=990
 left:s.bG (s.w16 a)=true->s.bG (s.w16 b)=false->s.qX (s.w16 b)
 right:s.bG (s.w16 b)=true->s.bG (s.w16 a)=false->s.qX (s.w16 a)
 calls:¬ (200<sz s.w16 a 200\/200<sz s.w16 b 200)->zxe (uF S d) (dC d) (s.w16 a).args (s.w16 b).args s
theorem ztb{d:Nat}(hS:1<=S){a b:Ty}{r:Store×Int}(h:uF S (d+1) s a b=some r):r=rM (dC d) s a b/\a.ok=true/\b.ok=true/\zNs S d s a b:=by
 unfold uF at h;split at h
 . rename_i hh;obtain⟨hn,hn2,⟨h1,ha,hb,hr⟩,hd⟩:=hh;cases h;have jg:bT s.slots.length S (s.w16 a):=h1.bX (Nat.le_refl S) (s.slots.length+1) ha;have hwb:bT s.slots.length S (s.w16 b):=h1.bX (Nat.le_refl S) (s.slots.length+1) hb;have fa:=(h1.nJ _ ha).walk.1;have fb:=(h1.nJ _ hb).walk.1;refine⟨rfl,ha.ok,hb.ok,h1.dF hn2,?_,fun s1 _=>?_,fun s2 _=>?_,fun hsz=>?_⟩
   . unfold Store.room at hr;omega
   . obtain⟨i,_,_,_,_,hu⟩:=h1.slot jg s1 fa;exact h1.qX hS hn hn2 hwb hu hr
   . obtain⟨i,_,_,_,_,hu⟩:=h1.slot hwb s2 fb;exact h1.qX hS hn hn2 jg hu hr
   . unfold need at hd;exact zAW (s0:=s) (k:=sz s.w16 a 200) hS hn hn2 (by omega) _ _ s (fun x hx=>⟨jg.arg hx,yt (by omega) x hx⟩) (fun x hx=>hwb.arg hx) h1 hr (.inl rfl)
 . cases h
end
end Store
end Go.J
/- Stores that tapes make: fresh slots,then equations. -/
namespace Go.J
open Enc (enc)
namespace Store
def FT(s:Store)(a b:Ty):Store×Int:=dC 300000 s a b
def ib(s:Store)(a b:Ty):Store×Int:=if (FT s a b).2=0 then ((FT s a b).1,0)else (s,(FT s a b).2)
structure zaw(S:Nat)(s:Store)(a b:Ty):Prop where
 big:s.slots.length*S+S<=90000
 len:s.slots.length<=1000
 pre:zFQ S s a b
theorem Br{s:Store}(h:s.slots.length<=1000)(a:Ty):need s a<300000:=by
 have h1:s.ll<=s.slots.length:=List.countP_le_length
 grind [zu,w,Nat.mul_le_mul_right,need]
theorem zaw.run{S:Nat}{s:Store}{a b:Ty}(h:zaw S s a b):uF S 300000 s a b=some (FT s a b):=if_pos ⟨h.big,h.len,h.pre,Br h.len a⟩
open Classical in
def znn(S:Nat)(s:Store)(a b:Ty):Option (Store×Int):=if zaw S s a b then some (ib s a b)else none
theorem AZ{n S:Nat}{s:Store}{a b:Ty}(hS:1<=S)(hn:n*S+S<=90000)(hn2:n<=1000)(h:bM n S s)(ha:bT n S a)(hb:bT n S b):Step n S s (ib s a b).1:=by
 unfold ib;split
 . exact kH hS hn 300000 s a b h ha hb (Br (by rw[h.len];exact hn2) a)
 . exact .refl h
theorem bM.zJI{n S:Nat}{s:Store}{a b:Ty}(h:bM n S s)(hn:n*S+S<=90000)(hn2:n<=1000)(ha:bT n S a)(hb:bT n S b)(hr:Store.room n S s<=990):zaw S s a b:=by
 have hl:=h.len;exact⟨by rw[hl];exact hn,by rw[hl];exact hn2,⟨by rw[hl];exact h,by rw[hl];exact ha,by rw[hl];exact hb,by rw[hl];exact hr⟩⟩
def oW(n:Nat)(s:Store):Prop:=s.slots.length=n/\s.trail.length=n/\∀ x∈s.slots,x.bound=false/\x.type=Nv
theorem oW.fresh{n:Nat}{s:Store}(h:oW n s)(home:Int)(base:Bool):oW (n+1) (s.fresh home base).1:=by
 obtain⟨h1,h2,h3⟩:=h;refine⟨by simp[Store.fresh,h1],by simp[Store.fresh,h2],fun x hx=>?_⟩;simp only[Store.fresh,List.mem_append,List.mem_singleton]at hx
 grind
theorem oW.iW{n S:Nat}{s:Store}(h:oW n s):bM n S s:=by
 obtain⟨h1,h2,h3⟩:=h;refine⟨h1,fun x hx=>by rw[(h3 x hx).1];exact(h3 x hx).2,fun i hi=>Fin.zqA ?_ fun u hu=>by cases hu⟩
 cases hb:s.bound (aM (i:Int))with
 |false=>rfl
 | true =>
   obtain⟨_,j,x,_,_,hx,hxb,_⟩:=gG hb
   grind
theorem oW.room{n S:Nat}{s:Store}(h:oW n s):room n S s<=n+(n*S+S+2)*n:=by
 unfold Store.room;have h1:s.ll<=s.slots.length:=List.countP_le_length;rw[h.1]at h1;have:=Nat.mul_le_mul_left (n*S+S+2) h1;rw[h.2.1];omega
def zvq(t:Tp):Nat->Tp×Store
 | 0=>(t,⟨[],[]⟩)
 |k+1=>((((zvq t k).1.next 3).1.next 5).1,((zvq t k).2.fresh ((zvq t k).1.next 3).2 (decide ((((zvq t k).1.next 3).1.next 5).2=0))).1)
def zAT(D:List Decl)(n:Nat)(t:Tp)(s:Store):Nat->Tp×Store
 | 0=>(t,s)
 | k + 1=>((dh 1 (dh 1 (zAT D n t s k).1 D (dK n)).1 D (dK n++[KZ 1 0])).1,
     (ib (zAT D n t s k).2 (dh 1 (zAT D n t s k).1 D (dK n)).2 (dh 1 (dh 1 (zAT D n t s k).1 D (dK n)).1 D (dK n++[KZ 1 0])).2).1)
theorem Cq{n:Nat}{u:Ty}(h:u∈dK n):∃ i,i<n/\u=aM (i:Int):=by
 unfold dK at h;obtain⟨i,hi,e⟩:=List.mem_map.1 h;exact⟨i,List.mem_range.1 hi,e.symm⟩
def zpL(n:Nat)(u:Ty):Prop:=(∃ i:Nat,i<n/\u=aM (i:Int))\/(u.kind≠1/\u.args=[]/\u.ay=true)
theorem zpL.lq{n:Nat}{x:Ty}(h:zpL n x){u:Ty}(hu:Qp u x):0<=u.id/\u.id<n:=by
 rcases h with⟨i,hi,rfl⟩|⟨hk,ha,_⟩
 . rw[hu.var rfl];exact⟨by simp[aM],by simp[aM];omega⟩
 . cases hu with
   |self hk'=>exact absurd hk' hk
   |arg _ hx _=>rw[ha]at hx;cases hx
theorem nY{D:List Decl}(hD:SQ D){Lv:List Ty}{n:Nat}(hl:∀ u∈Lv,zpL n u)(d:Nat)(t:Tp){S:Nat}(hS:2 ^ (d+1)<=S+1):bT n S (dh d t D Lv).2:=by
 have hargs:∀ u∈Lv,u.args=[]:=fun u hu=>by
  rcases hl u hu with⟨i,_,rfl⟩|⟨_,h,_⟩
  . rfl
  . exact h
 have hsz:∀ u∈Lv,u.size<=1:=fun u hu=>by rw[Ty.size_eq,hargs u hu];exact Nat.le_refl _
 have hok:∀ u∈Lv,u.ok=true:=fun u hu=>Ty.ky.2 ⟨by rw[hargs u hu];exact Nat.zero_le _,fun x hx=>by rw[hargs u hu]at hx;cases hx⟩
 have hvp:∀ u∈Lv,u.ay=true:=fun u hu=>by
  rcases hl u hu with⟨i,_,rfl⟩|⟨_,_,h⟩
  . exact eu _
  . exact h
 have zc9:∀ {x:Ty},x.kind≠1->(∀ y∈x.args,∀ u,Qp u y->0<=u.id/\u.id<n)->∀ u,Qp u x->0<=u.id/\u.id<(n:Int):=by
  intro x hk hx u hu
  cases hu with
  |self hk'=>exact absurd hk' hk
  |arg _ hy hu=>exact hx _ hy u hu
 refine⟨QJ hD hok d t,KY hvp d t,by have:=QK hD hsz d t;omega,?_⟩;refine uC (P:=fun x=>∀ u,Qp u x->0<=u.id/\u.id<(n:Int)) (fun u hu v hv=>(hl u hu).lq hv) (zc9 (by decide) fun y hy=>by cases hy) (fun dd _ l _ hx=>zc9 (by simp[nR]) fun y hy=>hx y hy) (fun a b h1 h2=>zc9 (by simp[lG,nR]) fun y hy=>?_) d t;simp only[lG,nR,Ty.cZ,List.mem_cons,List.not_mem_nil,or_false]at hy;rcases hy with rfl|rfl<;>assumption
theorem rA{n:Nat}:∀ u∈dK n,zpL n u:=fun u hu=>.inl (Cq hu)
def K4(t:Tp):Nat:=(1+(t.next 5).2).toNat
def vE(t:Tp)(D:List Decl):Tp×Store :=
 zAT D (K4 t) ((zvq (t.next 5).1 (K4 t)).1.next 4).1 (zvq (t.next 5).1 (K4 t)).2 ((zvq (t.next 5).1 (K4 t)).1.next 4).2.toNat
end Store
end Go.J
/- Types in slots and in zJJ stay well-formed. -/
namespace Go.J
open Enc (enc)
namespace Store
structure lD(s:Store):Prop where
 len:s.slots.length<=1000
 YW:∀ x∈s.slots,x.type.ok=true
 olds:∀ x∈s.trail,x.old.type.ok=true
theorem lD.dF{s:Store}(h:lD s):s.dF:=⟨h.len,h.YW⟩
theorem lD.set{s:Store}(h:lD s)(id:Int){x:Slot}(hx:x.type.ok=true):lD (s.set id x).1:=by
 unfold Store.set;split
 . rename_i old ho;obtain⟨i,_,hi,he⟩:=slot?_some ho;refine⟨by simp[h.len],fun y hy=>?_,fun y hy=>?_⟩
   . rcases List.mem_or_eq_of_mem_set hy with hy|rfl
     . exact h.YW y hy
     . exact hx
   . simp only[List.mem_append,List.mem_singleton]at hy;rcases hy with hy|rfl
     . exact h.olds y hy
     . exact h.YW _ (List.mem_of_getElem? he)
 . exact h
theorem NP{s:Store}(h:lD s)(id:Int):(s.aJ id).type.ok=true:=by
 unfold aJ
 cases ho:s.slot? id with
 |none=>rfl
 | some x =>
   obtain⟨i,_,hi,he⟩:=slot?_some ho;exact h.YW _ (List.mem_of_getElem? he)
theorem lD.fresh{s:Store}(h:lD s)(hl:s.slots.length<1000)(home:Int)(base:Bool):lD (s.fresh home base).1:=by
 refine⟨by simp[Store.fresh];omega,fun y hy=>?_,fun y hy=>?_⟩
 . simp only[Store.fresh,List.mem_append,List.mem_singleton]at hy;rcases hy with hy|rfl
   . exact h.YW y hy
   . rfl
 . simp only[Store.fresh,List.mem_append,List.mem_singleton]at hy;rcases hy with hy|rfl
   . exact h.olds y hy
   . rfl
theorem lD.lower{s:Store}(h:lD s)(home v:Int):lD (bf home s v):=by
 unfold bf;split
 . exact h.set _ (NP h v)
 . exact h
theorem lD.lowers(home:Int):∀ (l:List Int) {s:Store},lD s->lD (l.foldl (bf home) s):=by
 intro l
 induction l with
 |nil=>intro s h;exact h
 |cons v l ih=>intro s h;exact ih (h.lower home v)
theorem lD.join{s:Store}(h:lD s)(i k:Int):lD (s.join i k):=by
 unfold Store.join;split
 . exact h
 . exact(h.set _ (x:=s.joinL i k) (NP h _)).set _ (x:=s.xE i k) rfl
theorem lD.bind{s:Store}(h:lD s)(id:Int){t:Ty}(ht:t.ok=true):lD (s.bindM id t).1:=by
 unfold bindM;split
 . exact h
 split
 . exact h
 split
 . exact h
 split
 . exact h
 exact(lD.lowers _ _ h).set _ ht
end Store
end Go.J
/- Stores that were made of others,step by step: znP back. -/
namespace Go.J
open Enc (enc)
namespace Store
inductive Ext:Store->Store->Prop
 |refl (a:Store):Ext a a
 |fresh {a b:Store} (h:Int) (g:Bool):Ext a b->Ext a (b.fresh h g).1
 |set {a b:Store} (i:Nat) (x:Slot):Ext a b->i<b.slots.length->Ext a (b.set (i:Int) x).1
theorem Ext.trans{a b c:Store}(h:Ext a b)(k:Ext b c):Ext a c:=by
 induction k with
 |refl=>exact h
 |fresh x g _ ih=>exact .fresh x g ih
 |set i x _ hi ih=>exact .set i x ih hi
theorem Ext.znE{a b:Store}(h:Ext a b)(id:Int)(x:Slot):Ext a (b.set id x).1:=by
 cases ho:b.slot? id with
 | none =>
   have:b.set id x=(b,false):=by unfold Store.set;rw[ho]
   grind
 | some old =>
   obtain⟨i,rfl,hi,_⟩:=slot?_some ho;exact .set i x h hi
theorem Ext.grow{a b:Store}(h:Ext a b):a.slots.length<=b.slots.length/\∃ l,b.trail=a.trail++l:=by
 induction h with
 |refl=>exact⟨Nat.le_refl _,[],by simp⟩
 | @fresh b x g _ ih =>
   obtain⟨h1,l,h2⟩:=ih;exact⟨by simp[Store.fresh];omega,l++[⟨(b.slots.length:Int),TF,true⟩],by simp[Store.fresh,h2]⟩
 | @set b i x _ hi ih =>
   grind [eX]
theorem Ext.len{a b:Store}(h:Ext a b):a.trail.length<=b.trail.length:=by
 obtain⟨l,e⟩:=h.grow.2;rw[e];simp
theorem Ext.at{a b:Store}(h:Ext a b):∀ m,a.trail.length<=m->m<=b.trail.length->∃ c,Ext a c/\Ext c b/\c.trail.length=m:=by
 induction h with
 |refl=>exact fun m h1 h2=>⟨_,.refl _,.refl _,by omega⟩
 | @fresh b x g h ih =>
   intro m h1 h2;by_cases h3:m<=b.trail.length
   . obtain⟨c,c1,c2,c3⟩:=ih m h1 h3;exact⟨c,c1,.fresh x g c2,c3⟩
   . exact⟨_,.fresh x g h,.refl _,by simp only[Store.fresh,List.length_append,List.length_singleton]at h2 ⊢;omega⟩
 | @set b i x h hi ih =>
   intro m h1 h2;by_cases h3:m<=b.trail.length
   . obtain⟨c,c1,c2,c3⟩:=ih m h1 h3;exact⟨c,c1,.set i x c2 hi,c3⟩
   . refine⟨_,.set i x h hi,.refl _,?_⟩;rw[eX hi]at h2 ⊢
     grind
theorem Ext.ids{a b:Store}(h:Ext a b)(ha:∀ c∈a.trail,0<=c.id):∀ c∈b.trail,0<=c.id:=by
 induction h with
 |refl=>exact ha
 | fresh x g _ ih =>
   intro c hc;simp only[Store.fresh,List.mem_append,List.mem_singleton]at hc
   grind
 | set i x _ hi ih =>
   intro c hc;rw[eX hi]at hc
   grind
theorem ZZ(home v:Int)(s:Store):Ext s (bf home s v):=by
 unfold bf;split
 . exact Ext.znE (.refl s) _ _
 . exact .refl _
theorem R7(home:Int):∀ (l:List Int) (s:Store),Ext s (l.foldl (bf home) s):=by
 intro l
 induction l with
 |nil=>intro s;exact .refl s
 |cons v l ih=>intro s;exact(ZZ home v s).trans (ih _)
theorem zkF(s:Store)(i k:Int):Ext s (s.join i k):=by
 unfold Store.join;split
 . exact .refl _
 . exact(Ext.znE (.refl s) _ _).znE _ _
theorem Py(s:Store)(id:Int)(t:Ty):Ext s (s.bindM id t).1:=by
 unfold bindM;split
 . exact .refl _
 split
 . exact .refl _
 split
 . exact .refl _
 split
 . exact .refl _
 exact(R7 _ _ s).znE _ _
theorem zvQ{rec:Store->Ty->Ty->Store×Int}(hrec:∀ s a b,Ext s (rec s a b).1):∀ (l m:List Ty) (s:Store),Ext s (uL rec l m s).1:=by
 intro l
 induction l with
 |nil=>intro m s;exact .refl s
 | cons x l ih =>
   intro m s
   cases m with
   |nil=>exact .refl s
   | cons y m =>
     rw[uL];split
     . exact(hrec s x y).trans (ih m _)
     grind
theorem ZY:∀ (d:Nat) (s:Store) (a b:Ty),Ext s (dC d s a b).1:=by
 intro d
 induction d with
 |zero=>intro s a b;exact .refl s
 | succ d ih =>
   intro s a b;rw[dC];unfold rM;split
   . exact .refl s
   split
   . grind [zkF,Py]
   . split
     . exact Py _ _ _
     . split
       . exact .refl s
       . exact zvQ ih _ _ s
theorem zo3(s:Store)(a b:Ty):Ext s (ib s a b).1:=by
 unfold ib;split
 . exact ZY _ s a b
 . exact .refl s
end Store
end Go.J
/- KJ in iW stores. -/
namespace Go.J
open Enc (enc)
namespace Store
section
variable {n S:Nat}{s:Store}
theorem kS{t:Ty}(h:s.bound t=false):∀ k,s.bX k t=t:=by
 intro k
 cases k with
 |zero=>rfl
 |succ k=>unfold bX;rw[if_neg (by rw[h];simp)]
theorem bM.end(h:bM n S s)(t:Ty):s.bound (s.w16 t)=false/\s.w t=s.w16 t:=by
 cases hb:s.bound t with
 |false=>rw[show s.w16 t=t from kS hb _,show s.w t=t from kS hb _];exact⟨hb,rfl⟩
 |true=>exact(Fin.zus hb (h.nJ _ (h.to hb))).walk
theorem bM.zsD(h:bM n S s):s.w=s.w16:=funext fun t=>(h.end t).2
theorem vZ{t u:Ty}(hk:u.kind=t.kind)(hi:u.id=t.id):s.bound u=s.bound t:=by
 unfold Store.bound;rw[hk,hi]
theorem bM.again (h:bM n S s):∀ (f:Nat) (t r:Ty),wV s.w16 f t=some r->Rz s.w16 r r:=by
 intro f
 induction f with
 |zero=>intro t r h;cases h
 | succ f ih =>
   intro t r hr;rw[wV]at hr;split at hr
   . rename_i l hl;cases hr
     have hb:s.bound (Ty.mk (s.w16 t).kind (s.w16 t).name (s.w16 t).id (s.w16 t).home l)=false:=by
      exact(vZ (u:=Ty.mk (s.w16 t).kind (s.w16 t).name (s.w16 t).id (s.w16 t).home l) (t:=s.w16 t) rfl rfl).trans (h.end t).1
     have hw:s.w16 (Ty.mk (s.w16 t).kind (s.w16 t).name (s.w16 t).id (s.w16 t).home l)=Ty.mk (s.w16 t).kind (s.w16 t).name (s.w16 t).id (s.w16 t).home l:=kS hb _;refine gH.2 ⟨l,?_,by rw[hw];rfl⟩;rw[hw,Ty.cZ]
     have key:∀ (a m:List Ty),uG (wV s.w16 f) a=some m->wG s.w16 m m:=by
      intro a
      induction a with
      |nil=>intro m h;cases h;exact .nil
      | cons x a iha =>
        intro m hm;unfold uG at hm;split at hm
        . rename_i y m' h3 h4;cases hm;exact .cons (ih x y h3) (iha m' h4)
        . cases hm
     grind
   . cases hr
theorem bM.resolved(h:bM n S s){t:Ty}(hr:(bK s.w16 t).2=true):bK s.w16 (bK s.w16 t).1=((bK s.w16 t).1,true):=by
 unfold bK at hr ⊢;split at hr
 . rename_i hs;obtain⟨r,⟨f,hf⟩,hz⟩:=gp.1 hs;have e:full s.w16 t=r:=full_of ⟨f,hf⟩;have h2:=h.again f t r hf
   grind [gp,full_of]
 . cases hr
end
end Store
end Go.J
/- The search for type variables with a set of those that were seen finds what the fQ search finds. -/
namespace Go.J
open Enc (enc)
namespace Store
abbrev Sv:=List Int×List Int
def TC (rec:Ty->Sv->Option Sv):List Ty->Sv->Option Sv
 | [],st=>some st
 | x::l,st=>match rec x st with
   |some st'=>TC rec l st'
   |none=>none
def M5 (s:Store):Nat->Ty->Sv->Option Sv
 | 0,_,_=>none
 | f + 1,t,st=>if t.kind=1 then
     (if t.id∈st.1 then some st
       else if s.bound t=false then some (st.1++[t.id],st.2++[t.id])
       else if (s.to t).kind=1 then M5 s f (s.to t) (st.1++[t.id],st.2)
       else TC (M5 s f) (s.to t).args (st.1++[t.id],st.2))
   else TC (M5 s f) t.args st
structure Dv(s:Store)(sv:Sv)(st:List Int×List Bool):Prop where
 out:sv.2=st.1
 seen:∀ u:Ty,u.kind=1->(u.id∈sv.1↔if s.bound u=true then st.2[u.id.toNat]?=some true else u.id∈st.1)
 len:st.2.length=s.slots.length
theorem QM{s:Store}{F G:Nat}(ih:∀ x sv st,Dv s sv st->x.size+J.und s.slots st.2<=F->x.size+J.und s.slots st.2<=G->∃ zp8,M5 s G x sv=some zp8/\Dv s zp8 (pY s F x st)) :
 ∀ (l:List Ty) (sv:Sv) (st:List Int×List Bool),Dv s sv st->Ty.sizes l+J.und s.slots st.2<=F->Ty.sizes l+J.und s.slots st.2<=G->∃ zp8,TC (M5 s G) l sv=some zp8/\Dv s zp8 (l.foldl (fun st x=>pY s F x st) st):=by
 intro l
 induction l with
 |nil=>intro sv st h _ _;exact⟨sv,rfl,h⟩
 | cons x l ih2 =>
   intro sv st h hF hG;simp only[Ty.sizes]at hF hG;obtain⟨sv1,e1,h1⟩:=ih x sv st h (by omega) (by omega);have hv:=(Co s F x st).2.2.1
   grind [pY,TC]
theorem Dv.mark{s:Store}{sv:Sv}{st:List Int×List Bool}(h:Dv s sv st){t:Ty}{i:Nat}(hk:t.kind=1)(hb:s.bound t=true)(hi:t.id=(i:Int))(hil:i<s.slots.length):Dv s (sv.1++[t.id],sv.2) (st.1,st.2.set i true):=by
 refine⟨h.out,fun u hu=>?_,by simp[h.len]⟩;simp only[List.mem_append,List.mem_singleton];rw[h.seen u hu];by_cases e:u.id=t.id
 . have hub:s.bound u=true:=by rw[vZ (hu.trans hk.symm) e];exact hb
   rw[if_pos hub,if_pos hub,e,hi,Int.toNat_natCast];simp[h.len,hil]
 . cases hub:s.bound u with
   | true =>
     obtain⟨_,j,x,hj,hjl,_⟩:=gG hub
     grind
   | false =>
     grind
theorem Dv.find{s:Store}{sv:Sv}{st:List Int×List Bool}(h:Dv s sv st){t:Ty}(hk:t.kind=1)(hb:s.bound t=false):Dv s (sv.1++[t.id],sv.2++[t.id]) (st.1++[t.id],st.2):=by
 refine⟨by simp[h.out],fun u hu=>?_,h.len⟩;simp only[List.mem_append,List.mem_singleton];rw[h.seen u hu]
 grind [vZ]
theorem ztm (s:Store):∀ (F:Nat) (t:Ty) (G:Nat) (sv:Sv) (st:List Int×List Bool),Dv s sv st->t.size+J.und s.slots st.2<=F->t.size+J.und s.slots st.2<=G->∃ zp8,M5 s G t sv=some zp8/\Dv s zp8 (pY s F t st):=by
 intro F
 induction F using Nat.strongRecOn with
 | _ F ih =>
   intro t G sv st h hF hG;have hp:=Ty.size_pos t;have hse:=Ty.size_eq t;obtain⟨F,rfl⟩:∃ f,F=f+1:=⟨F-1,by omega⟩;obtain⟨G,rfl⟩:∃ g,G=g+1:=⟨G-1,by omega⟩;rw[M5,pY];by_cases hk:t.kind=1
   . rw [if_pos hk,if_pos hk];have hs:=h.seen t hk
     cases hb:s.bound t with
     | false =>
       rw[hb]at hs;simp only[Bool.false_eq_true,if_false]at hs ⊢;by_cases hm:t.id∈st.1
       . grind
       . rw[if_neg (fun e=>hm (hs.1 e)),if_neg hm,if_pos trivial];exact⟨_,rfl,h.find hk hb⟩
     | true =>
       rw[hb]at hs;simp only[if_true]at hs ⊢;obtain⟨_,i,x,hi,hil,hx,hxb,hto⟩:=gG hb;by_cases hd:st.2[i]?=some false
       . have hm:¬ t.id∈sv.1:=fun e=>by
          grind
         rw[if_neg hm,if_neg (by simp)];have hd':st.2[t.id.toNat]?=some false:=by rw[hi,Int.toNat_natCast];exact hd
         rw[if_pos hd'];have hmk:=h.mark hk hb hi hil;have zRq:=Fu hx hd;have e:t.id.toNat=i:=by rw[hi,Int.toNat_natCast]
         rw[e,hto];have b1:x.type.size+J.und s.slots (st.2.set i true)<=F:=by omega
         have b2:x.type.size+J.und s.slots (st.2.set i true)<=G:=by omega
         by_cases hk2:x.type.kind=1
         . simp_all
         . rw[if_neg hk2];have hp2:=Ty.size_pos x.type;have zRu:=Ty.size_eq x.type;obtain⟨F',rfl⟩:∃ f,F=f+1:=⟨F-1,by omega⟩;rw[pY,if_neg hk2];exact QM (fun y sv st h a b=>ih F' (by omega) y G sv st h a b) x.type.args _ _ hmk (by simp only at b1 ⊢;omega) (by simp only at b2 ⊢;omega)
       . have hm:t.id∈sv.1:=hs.2 (by
          rw[hi,Int.toNat_natCast];have hl2:i<st.2.length:=by rw[h.len];exact hil
          rw[List.getElem?_eq_getElem hl2]at hd ⊢
          cases hq:st.2[i]with
          |true=>rfl
          |false=>rw[hq]at hd;exact absurd rfl hd)
         grind
   . rw[if_neg hk,if_neg hk];exact QM (fun y sv st h a b=>ih F (by omega) y G sv st h a b) t.args sv st h (by omega) (by omega)
theorem zbJ{s:Store}{l:List Ty}(h:iO s l):∃ sv,TC (M5 s 100000) l ([],[])=some sv/\sv.2=dz s l:=by
 have h0:Dv s ([],[]) (([]:List Int),List.replicate s.slots.length false):=by
  refine⟨rfl,fun u _=>?_,by simp⟩
  grind
 obtain⟨sv,e,hc⟩:=QM (F:=100000) (G:=100000) (fun x sv st h a b=>ztm s 100000 x 100000 sv st h a b) l _ _ h0 (by have:=h.2.2.2;simp only;omega) (by have:=h.2.2.2;simp only;omega);exact⟨sv,e,hc.out⟩
end Store
namespace Store
theorem Fx{rec:Ty->Sv->Option Sv}(ih:∀ x st r,rec x st=some r->st.2.length<=r.2.length):∀ (l:List Ty) (st r:Sv),TC rec l st=some r->st.2.length<=r.2.length:=by
 intro l
 induction l with
 |nil=>intro st r h;cases h;exact Nat.le_refl _
 | cons x l ih2 =>
   grind [TC,Nat.le_trans]
theorem A8 (s:Store):∀ (f:Nat) (t:Ty) (st r:Sv),M5 s f t st=some r->st.2.length<=r.2.length:=by
 intro f
 induction f with
 |zero=>intro t st r h;cases h
 | succ f ih =>
   intro t st r h;rw[M5]at h;split at h
   . split at h
     . grind
     . split at h
       . cases h;simp
       . split at h
         . grind
         . have:=Fx ih _ (st.1++[t.id],st.2) _ h;exact this
   . exact Fx ih _ _ _ h
def zaD(d:Nat)(s:Store)(st:Sv)(t:Ty):Option Sv:=if s.dF/\t.ok=true then (match M5 s d t st with
 |some r=>if r.2.length<=100000 then some r else none
 |none=>none)else none
theorem TD{d:Nat}{s:Store}{st r:Sv}{t:Ty}(h:zaD d s st t=some r):s.dF/\t.ok=true/\M5 s d t st=some r/\r.2.length<=100000:=by
 grind [zaD]
theorem QN{d:Nat}{s:Store}{st r:Sv}{t:Ty}(h1:s.dF)(h2:t.ok=true)(h3:M5 s d t st=some r)(h4:r.2.length<=100000):zaD d s st t=some r:=by
 grind [zaD]
end Store
end Go.J
