import Derived.Test.YtfgmnebfhemnpaaGreatJL
import Derived.Test.YtfgmnebfhemnpaaGreatJN
import Derived.Test.YtfgmnebfhemnpaaGreatJP
set_option linter.all false
noncomputable section
/- Two searches for cycles in a store say the same. -/
namespace Go.J
open Enc (enc)
def Store.sc(s:Store)(i:Int):List Int:=match s.slots[i.toNat]? with
 |some x=>zwl [x.type]
 |none=>[]
def Store.er(s:Store)(i k:Int):Prop:=k∈s.sc i
def acL(rec:Int->List Int->List Int×Bool):List Int->List Int->List Int×Bool
 | [],S=>(S,true)
 |v::l,S=>if (rec v S).2=true then acL rec l (rec v S).1 else ((rec v S).1,false)
def at0(S:List Int)(i:Int):Int:=(S[i.toNat]?).getD 0
def acM (s:Store):Nat->Int->List Int->List Int×Bool
 | 0,_,S=>(S,false)
 | f+1,i,S=>if at0 S i>0 then (S,decide (at0 S i=2))else
   if (acL (acM s f) (s.sc i) (S.set i.toNat 1)).2=true then ((acL (acM s f) (s.sc i) (S.set i.toNat 1)).1.set i.toNat 2,true)else ((acL (acM s f) (s.sc i) (S.set i.toNat 1)).1,false)
def Store.cl(s:Store):Prop:=∀ i k,s.er i k->0<=k/\k<s.slots.length
theorem z9X{S:List Int}{i j v:Int}(hi:0<=i)(hl:i<S.length)(hj:0<=j):at0 (S.set i.toNat v) j=if j=i then v else at0 S j:=by
 unfold at0;rw[List.getElem?_set];by_cases h:j=i
 . subst h;rw[if_pos rfl,if_pos rfl,if_pos (by omega)];rfl
 . rw[if_neg h,if_neg (by omega)]
def Store.mk3(s:Store)(S:List Int):Prop:=S.length=s.slots.length/\∀ j:Int,0<=j->at0 S j=0\/at0 S j=1\/at0 S j=2
theorem Store.mk3.set{s:Store}{S:List Int}(h:s.mk3 S){i v:Int}(hi:0<=i)(hl:i<s.slots.length)(hv:v=0\/v=1\/v=2):s.mk3 (S.set i.toNat v):=by
 refine⟨by rw[List.length_set];exact h.1,fun j hj=>?_⟩;rw[z9X hi (by rw[h.1];exact hl) hj];split
 . exact hv
 . exact h.2 j hj
abbrev Store.tg(s:Store):Int->Int->Prop:=Relation.TransGen s.er
def Store.acAll(s:Store):Bool:=(acL (acM s (s.slots.length+1)) ((List.range s.slots.length).map fun i:Nat=>(i:Int)) (List.replicate s.slots.length 0)).2
end Go.J
/- The program's search for cycles: lengths,counts,signs. -/
namespace Go.J
open Enc (enc)
mutual
theorem zm5:∀ t:Ty,t.valid=true->t.leafy=true
 | .mk k n i h l=>fun hv=>by
   have ha:=Ty.valid_args hv;rw[Ty.leafy,zfe l (fun u hu=>ha u hu),Bool.and_true];by_cases hk:k=1
   . subst hk;simp only[Ty.valid]at hv;simp at hv;simp[hv]
   . simp[hk]
theorem zfe:∀ l:List Ty,(∀ u∈l,u.valid=true)->Ty.leafys l=true
 | []=>fun _=>by rw[Ty.leafys]
 |t::l=>fun h=>by rw[Ty.leafys,zm5 t (h t (List.mem_cons_self ..)),zfe l (fun u hu=>h u (List.mem_cons_of_mem _ hu))];rfl
end
def Store.pv(s:Store):Bool:=decide (∀ x∈s.slots,s.slotOk x)&&decide (∀ c∈s.trail,0<=c.id/\c.id<s.slots.length)&&s.acAll
end Go.J
/- Stores of tapes are valid. -/
namespace Go.J
open Enc (enc)
def zHo(D:List Decl):Prop:=∀ d∈D,zk9 d.name=true/\d.name≠[45,62]/\d.name≠[73,110,116]/\d.params.length<=4
theorem znq(bits:Int):zHo (zaI bits):=by
 intro d hd;have key:∀ d∈allD,zk9 d.name=true/\d.name≠[45,62]/\d.name≠[73,110,116]/\d.params.length<=4:=by decide
 exact key d (zeY hd)
theorem zoS{i:Nat}(h:i<=1000000):(zad (i:Int)).valid=true:=by
 simp[zad,Ty.valid];omega
theorem zm3{i:Int}(h0:0<=i)(h:i<=1000000):(zad i).valid=true:=by
 simp[zad,Ty.valid];omega
theorem zit:(zax 1 0).valid=true:=by decide
theorem zoT:tInt.valid=true:=by decide
theorem zoU{n:List Nat}{l:List Ty}(h1:zk9 n=true)(h2:n≠[45,62])(h3:n≠[73,110,116])(h4:l.length<=4)(hl:∀ x∈l,x.valid=true):(zfN n l).valid=true:=by
 have:=Ty.valids_iff.2 hl;simp[zfN,Ty.valid,h1,h2,h3,h4,this]
theorem zk8{a b:Ty}(ha:a.valid=true)(hb:b.valid=true):(zcx a b).valid=true:=by
 simp[zcx,zfN,Ty.valid,Ty.valids,ha,hb]
theorem zd2{D:List Decl}(hD:zHo D){Lv:List Ty}(hl:∀ l∈Lv,l.valid=true)(d:Nat)(t:Tp):(typeM d t D Lv).2.valid=true :=
 zff (P:=fun t=>t.valid=true) hl zoT (fun dd hd l hll hx=>by
  obtain⟨h1,h2,h3,h4⟩:=hD dd hd
  exact zoU h1 h2 h3 (by omega) hx) (fun a b ha hb=>zk8 ha hb) d t
theorem zeK{n:Nat}(hn:n<=1000000):∀ u∈zaO n,u.valid=true:=fun u hu=>by
 obtain⟨i,hi,rfl⟩:=Store.varTs_mem hu;exact zoS (by omega)
mutual
theorem zm4:∀ t:Ty,t.valid=true->t.short=true
 | .mk k n i h l=>fun hv=>by
   have ha:=Ty.valid_args hv;rw[Ty.short,zfd l (fun u hu=>ha u hu),Bool.and_true,decide_eq_true_eq];unfold Ty.valid at hv
   have h12 : n.length ≤ 12 → n.length < 2^63 := fun h => by have:(12:Nat)<2^63:=by decide
                                                             omega
   refine h12 ?_;split at hv
   . simp at hv;rw[hv.1.1.2];decide
   . split at hv
     . simp at hv;rw[hv.1.2];decide
     . split at hv
       . simp[zzz]at hv;omega
       . split at hv
         . split at hv
           . rename_i e;rw[e];decide
           . split at hv
             . rename_i e;rw[e];decide
             . simp[zk9]at hv;omega
         . cases hv
theorem zfd:∀ l:List Ty,(∀ u∈l,u.valid=true)->Ty.shorts l=true
 | []=>fun _=>by rw[Ty.shorts]
 |t::l=>fun h=>by rw[Ty.shorts,zm4 t (h t (List.mem_cons_self ..)),zfd l (fun u hu=>h u (List.mem_cons_of_mem _ hu))];rfl
end
namespace Store
def gs(x:Slot):Prop:=if x.bound=true then x.type.valid=true else x.type=ty0
structure AllV(s:Store):Prop where
 len:s.slots.length<=1000
 tys:∀ x∈s.slots,gs x
theorem AllV.set{s:Store}(h:AllV s)(id:Int){x:Slot}(hx:gs x):AllV (s.set id x).1:=by
 unfold Store.set;split
 . refine⟨by simp[h.len],fun y hy=>?_⟩;rcases List.mem_or_eq_of_mem_set hy with hy|rfl
   . exact h.tys y hy
   . exact hx
 . exact h
theorem zoq{s:Store}(h:AllV s)(id:Int):gs (s.slotD id):=by
 unfold slotD
 cases ho:s.slot? id with
 |none=>rfl
 | some x =>
   obtain⟨i,_,hi,he⟩:=slot?_some ho;exact h.tys _ (List.mem_of_getElem? he)
theorem AllV.fresh{s:Store}(h:AllV s)(hl:s.slots.length<1000)(home:Int)(base:Bool):AllV (s.fresh home base).1:=by
 refine⟨by simp[Store.fresh];omega,fun y hy=>?_⟩;simp only[Store.fresh,List.mem_append,List.mem_singleton]at hy;rcases hy with hy|rfl
 . exact h.tys y hy
 . rfl
theorem AllV.lower{s:Store}(h:AllV s)(home v:Int):AllV (lowerOne home s v):=by
 unfold lowerOne;split
 . exact h.set _ (x:={ s.slotD v with home:=home }) (zoq h v)
 . exact h
theorem AllV.lowers(home:Int):∀ (l:List Int) {s:Store},AllV s->AllV (l.foldl (lowerOne home) s):=by
 intro l
 induction l with
 |nil=>intro s h;exact h
 |cons v l ih=>intro s h;exact ih (h.lower home v)
theorem ziO{s:Store}{i:Int}(h:(s.slot? i).isSome=true):0<=i/\i<s.slots.length:=by
 obtain⟨x,hx⟩:=Option.isSome_iff_exists.1 h;obtain⟨k,rfl,hk,_⟩:=slot?_some hx;omega
theorem AllV.join{s:Store}(h:AllV s){i k:Int}(hi:(s.slot? i).isSome=true)(hk:(s.slot? k).isSome=true):AllV (s.join i k):=by
 unfold Store.join;split
 . exact h
 . have h1:=ziO hi;have h2:=ziO hk;have hl:=h.len;exact(h.set _ (x:=s.joinL i k) (zoq h _)).set _ (x:=s.joinH i k) (zm3 (by omega) (by omega))
theorem AllV.bind{s:Store}(h:AllV s)(id:Int){t:Ty}(ht:t.valid=true):AllV (s.bindM id t).1:=by
 unfold bindM;split
 . exact h
 split
 . exact h
 split
 . exact h
 split
 . exact h
 exact(AllV.lowers _ _ h).set _ (x:={ s.slotD id with bound:=true,type:=t }) ht
theorem zq9{s:Store}(h:AllV s){t:Ty}(hb:s.bound t=true):(s.to t).valid=true:=by
 obtain⟨_,x,hx,hxb⟩:=bound_true hb;have:s.to t=x.type:=by unfold to;rw[hx]
 rw[this];obtain⟨i,_,hi,he⟩:=slot?_some hx;have hg:=h.tys _ (List.mem_of_getElem? he);unfold gs at hg;rw[if_pos hxb]at hg;exact hg
theorem zfc{s:Store}(h:AllV s):∀ (n:Nat) {t:Ty},t.valid=true->(s.walkN n t).valid=true:=by
 intro n
 induction n with
 |zero=>intro t ht;exact ht
 | succ n ih =>
   intro t ht;unfold walkN;split
   . rename_i hb;exact ih (zq9 h hb)
   . exact ht
theorem zDf{rec:Store->Ty->Ty->Store×Int}(hrec:∀ s a b,AllV s->a.valid=true->b.valid=true->AllV (rec s a b).1) :
 ∀ (l m:List Ty) (s:Store),AllV s->(∀ x∈l,x.valid=true)->(∀ x∈m,x.valid=true)->AllV (uL rec l m s).1:=by
 intro l
 induction l with
 |nil=>intro m s h _ _;exact h
 | cons x l ih =>
   intro m s h hl hm
   cases m with
   |nil=>exact h
   | cons y m =>
     have h1:=hrec s x y h (hl x (List.mem_cons_self ..)) (hm y (List.mem_cons_self ..));rw[uL];split
     . exact ih m _ h1 (fun z hz=>hl z (List.mem_cons_of_mem _ hz)) (fun z hz=>hm z (List.mem_cons_of_mem _ hz))
     . exact h1
theorem ziL:∀ (d:Nat) (s:Store) (a b:Ty),AllV s->a.valid=true->b.valid=true->AllV (zaj d s a b).1:=by
 intro d
 induction d with
 |zero=>intro s a b h _ _;exact h
 | succ d ih =>
   intro s a b h ha hb;have hx:(s.w16 a).valid=true:=zfc h _ ha;have hy:(s.w16 b).valid=true:=zfc h _ hb;rw[zaj];unfold uStep;split
   . exact h
   split
   . rename_i q1;split
     . rename_i q2;exact h.join (isSlot_some q1) (isSlot_some q2)
     . exact h.bind _ hy
   . split
     . exact h.bind _ hx
     . split
       . exact h
       . exact zDf ih _ _ s h (Ty.valid_args hx) (Ty.valid_args hy)
theorem zq7{s:Store}{a b:Ty}(h:AllV s)(ha:a.valid=true)(hb:b.valid=true):AllV (topM s a b).1:=by
 unfold topM;split
 . exact ziL _ s a b h ha hb
 . exact h
theorem z9q(t:Tp):∀ k,k<=1000->AllV (frM t k).2/\(frM t k).2.slots.length=k:=by
 intro k
 induction k with
 |zero=>exact fun _=>⟨⟨Nat.zero_le _,fun x hx=>(by cases hx)⟩,rfl⟩
 | succ k ih =>
   intro hk;obtain⟨i1,i2⟩:=ih (by omega);exact⟨i1.fresh (by omega) _ _,by rw[frM];simp[Store.fresh,i2]⟩
theorem z7t{D:List Decl}(hD:zHo D){n:Nat}(hn:n<=1000000){t:Tp}{s:Store}(h:AllV s):∀ k,AllV (unM D n t s k).2:=by
 intro k
 induction k with
 |zero=>exact h
 | succ k ih =>
   rw[unM];exact zq7 ih (zd2 hD (zeK hn) _ _) (zd2 hD (fun u hu=>(List.mem_append.1 hu).elim (zeK hn u) fun h=>by rw[List.mem_singleton.1 h];exact zit) _ _)
theorem zpd(t:Tp){D:List Decl}(hD:zHo D):AllV (storeM t D).2:=z7t hD (by have:=storeN_le t;omega) (z9q _ _ (by have:=storeN_le t;omega)).1 _
theorem Ext.lt{a b:Store}(h:Ext a b)(ha:∀ c∈a.trail,c.id<a.slots.length):∀ c∈b.trail,c.id<b.slots.length:=by
 induction h with
 |refl=>exact ha
 | fresh x g _ ih =>
   intro c hc;simp only[Store.fresh,List.mem_append,List.mem_singleton]at hc;simp only[Store.fresh,List.length_append,List.length_singleton];rcases hc with hc|rfl
   . have:=ih c hc;omega
   . simp only;omega
 | set i x _ hi ih =>
   intro c hc;rw[set_some hi]at hc ⊢;simp only[List.mem_append,List.mem_singleton,List.length_set]at hc ⊢;rcases hc with hc|rfl
   . exact ih c hc
   . simp only;omega
end Store
end Go.J
