import Derived.Test.YtpcmebclpindjaaGreatJL
import Derived.Test.YtpcmebclpindjaaGreatJN
import Derived.Test.YtpcmebclpindjaaGreatJP
set_option linter.all false
noncomputable section
/- Two searches for cycles in a store say the same. -/
namespace Go.J
open Enc (enc)
def Store.sc(s:Store)(i:Int):List Int:=match s.slots[i.toNat]? with
 |some x=>zcb [x.type]
 |none=>[]
def Store.er(s:Store)(i k:Int):Prop:=k∈s.sc i
def acL(rec:Int->List Int->List Int×Bool):List Int->List Int->List Int×Bool
 | [],S=>(S,true)
 |v::l,S=>if (rec v S).2=true then acL rec l (rec v S).1 else ((rec v S).1,false)
def at0(S:List Int)(i:Int):Int:=(S[i.toNat]?).getD 0
def acM (s:Store):Nat->Int->List Int->List Int×Bool
 | 0,_,S=>(S,false)
 | f+1,i,S=>if at0 S i>0 then (S,decide (at0 S i=2))else
   if (acL (acM s f) (s.sc i) (S.set i.toNat 1)).2=true then ((acL (acM s f) (s.sc i) (S.set i.toNat 1)).1.set i.toNat 2,true)else ((acL (acM s f) (s.sc i) (S.set i.toNat 1)).1,false)
def Store.cl(s:Store):Prop:=∀ i k,s.er i k->0<=k/\k<s.slots.length
theorem z6K{S:List Int}{i j v:Int}(hi:0<=i)(hl:i<S.length)(hj:0<=j):at0 (S.set i.toNat v) j=if j=i then v else at0 S j:=by
 unfold at0;rw[List.getElem?_set];by_cases h:j=i
 . subst h;rw[if_pos rfl,if_pos rfl,if_pos (by omega)];rfl
 . rw[if_neg h,if_neg (by omega)]
def Store.mk3(s:Store)(S:List Int):Prop:=S.length=s.slots.length/\∀ j:Int,0<=j->at0 S j=0\/at0 S j=1\/at0 S j=2
theorem Store.mk3.set{s:Store}{S:List Int}(h:s.mk3 S){i v:Int}(hi:0<=i)(hl:i<s.slots.length)(hv:v=0\/v=1\/v=2):s.mk3 (S.set i.toNat v):=by
 refine⟨by rw[List.length_set];exact h.1,fun j hj=>?_⟩;rw[z6K hi (by rw[h.1];exact hl) hj];split
 . exact hv
 . exact h.2 j hj
def Store.acAll(s:Store):Bool:=(acL (acM s (s.slots.length+1)) ((List.range s.slots.length).map fun i:Nat=>(i:Int)) (List.replicate s.slots.length 0)).2
end Go.J
/- The program's search for cycles: lengths,counts,signs. -/
namespace Go.J
open Enc (enc)
mutual
theorem zg6:∀ t:Ty,t.valid=true->t.leafy=true
 | .mk k n i h l=>fun hv=>by
   have ha:=Ty.valid_args hv;rw[Ty.leafy,zeY l (fun u hu=>ha u hu),Bool.and_true];by_cases hk:k=1
   . subst hk;simp only[Ty.valid]at hv;simp at hv;simp[hv]
   . simp[hk]
theorem zeY:∀ l:List Ty,(∀ u∈l,u.valid=true)->Ty.leafys l=true
 | []=>fun _=>by rw[Ty.leafys]
 |t::l=>fun h=>by rw[Ty.leafys,zg6 t (h t (List.mem_cons_self ..)),zeY l (fun u hu=>h u (List.mem_cons_of_mem _ hu))];rfl
end
theorem zl0{t:Ty}(h:t.valid=true):zcw [t] []=zcb [t]:=(zpM (by rw[Ty.leafys,zg6 t h];rfl)).symm
def Store.pv(s:Store):Bool:=decide (∀ x∈s.slots,s.slotOk x)&&decide (∀ c∈s.trail,0<=c.id/\c.id<s.slots.length)&&s.acAll
end Go.J
/- Stores of tapes are valid. -/
namespace Go.J
open Enc (enc)
def z92(D:List Decl):Prop:=∀ d∈D,zcd d.name=true/\d.name≠[45,62]/\d.name≠[73,110,116]/\d.params.length<=4
theorem zm5(bits:Int):z92 (zD bits):=by
 intro d hd;have key:∀ d∈allD,zcd d.name=true/\d.name≠[45,62]/\d.name≠[73,110,116]/\d.params.length<=4:=by decide
 exact key d (zd0 hd)
theorem zlM{i:Int}(h0:0<=i)(h:i<=1000000):(za0 i).valid=true:=by
 simp[za0,Ty.valid];omega
theorem zo4:tInt.valid=true:=by decide
theorem zo5{n:List Nat}{l:List Ty}(h1:zcd n=true)(h2:n≠[45,62])(h3:n≠[73,110,116])(h4:l.length<=4)(hl:∀ x∈l,x.valid=true):(zeU n l).valid=true:=by
 grind [Ty.valids_iff,zeU,Ty.valid]
theorem zjZ{a b:Ty}(ha:a.valid=true)(hb:b.valid=true):(zbI a b).valid=true:=by
 simp[zbI,zeU,Ty.valid,Ty.valids,ha,hb]
theorem zc4{D:List Decl}(hD:z92 D){Lv:List Ty}(hl:∀ l∈Lv,l.valid=true)(d:Nat)(t:Tp):(typeM d t D Lv).2.valid=true :=
 zdI (P:=fun t=>t.valid=true) hl zo4 (fun dd hd l hll hx=>by
  obtain⟨h1,h2,h3,h4⟩:=hD dd hd
  exact zo5 h1 h2 h3 (by omega) hx) (fun a b ha hb=>zjZ ha hb) d t
mutual
theorem zg5:∀ t:Ty,t.valid=true->t.short=true
 | .mk k n i h l=>fun hv=>by
   have ha:=Ty.valid_args hv;rw[Ty.short,zeX l (fun u hu=>ha u hu),Bool.and_true,decide_eq_true_eq];unfold Ty.valid at hv
   have h12 : n.length ≤ 12 → n.length < 2^63 := fun h => by have:(12:Nat)<2^63:=by decide
                                                             omega
   refine h12 ?_;split at hv
   . simp at hv;rw[hv.1.1.2];decide
   . split at hv
     . simp at hv;rw[hv.1.2];decide
     . split at hv
       . simp[zdh]at hv;omega
       . split at hv
         . split at hv
           . rename_i e;rw[e];decide
           . split at hv
             . rename_i e;rw[e];decide
             . simp[zcd]at hv;omega
         . cases hv
theorem zeX:∀ l:List Ty,(∀ u∈l,u.valid=true)->Ty.shorts l=true
 | []=>fun _=>by rw[Ty.shorts]
 |t::l=>fun h=>by rw[Ty.shorts,zg5 t (h t (List.mem_cons_self ..)),zeX l (fun u hu=>h u (List.mem_cons_of_mem _ hu))];rfl
end
namespace Store
def gs(x:Slot):Prop:=if x.bound=true then x.type.valid=true else x.type=ty0
structure AllV(s:Store):Prop where
 len:s.slots.length<=1000
 tys:∀ x∈s.slots,gs x
theorem AllV.set{s:Store}(h:AllV s)(id:Int){x:Slot}(hx:gs x):AllV (s.set id x).1:=by
 unfold Store.set;split
 . refine⟨by simp[h.len],fun y hy=>?_⟩;rcases List.mem_or_eq_of_mem_set hy with hy|rfl
   . exact h.tys y hy
   . exact hx
 . exact h
theorem zn1{s:Store}(h:AllV s)(id:Int):gs (s.slotD id):=by
 unfold slotD
 cases ho:s.slot? id with
 |none=>rfl
 | some x =>
   obtain⟨i,_,hi,he⟩:=slot?_some ho;exact h.tys _ (List.mem_of_getElem? he)
theorem AllV.fresh{s:Store}(h:AllV s)(hl:s.slots.length<1000)(home:Int)(base:Bool):AllV (s.fresh home base).1:=by
 refine⟨by simp[Store.fresh];omega,fun y hy=>?_⟩;simp only[Store.fresh,List.mem_append,List.mem_singleton]at hy;rcases hy with hy|rfl
 . exact h.tys y hy
 . rfl
theorem AllV.lower{s:Store}(h:AllV s)(home v:Int):AllV (zdw home s v):=by
 unfold zdw;split
 . exact h.set _ (x:={ s.slotD v with home:=home }) (zn1 h v)
 . exact h
theorem AllV.lowers(home:Int):∀ (l:List Int) {s:Store},AllV s->AllV (l.foldl (zdw home) s):=by
 intro l
 induction l with
 |nil=>intro s h;exact h
 |cons v l ih=>intro s h;exact ih (h.lower home v)
theorem zi6{s:Store}{i:Int}(h:(s.slot? i).isSome=true):0<=i/\i<s.slots.length:=by
 obtain⟨x,hx⟩:=Option.isSome_iff_exists.1 h;obtain⟨k,rfl,hk,_⟩:=slot?_some hx;omega
theorem AllV.join{s:Store}(h:AllV s){i k:Int}(hi:(s.slot? i).isSome=true)(hk:(s.slot? k).isSome=true):AllV (s.join i k):=by
 unfold Store.join;split
 . exact h
 . have h1:=zi6 hi;have h2:=zi6 hk;have hl:=h.len;exact(h.set _ (x:=s.joinL i k) (zn1 h _)).set _ (x:=s.joinH i k) (zlM (by omega) (by omega))
theorem AllV.bind{s:Store}(h:AllV s)(id:Int){t:Ty}(ht:t.valid=true):AllV (s.bindM id t).1:=by
 unfold bindM;split
 . exact h
 split
 . exact h
 split
 . exact h
 split
 . exact h
 exact(AllV.lowers _ _ h).set _ (x:={ s.slotD id with bound:=true,type:=t }) ht
theorem Ext.lt{a b:Store}(h:Ext a b)(ha:∀ c∈a.trail,c.id<a.slots.length):∀ c∈b.trail,c.id<b.slots.length:=by
 induction h with
 |refl=>exact ha
 | fresh x g _ ih =>
   intro c hc;simp only[Store.fresh,List.mem_append,List.mem_singleton]at hc;simp only[Store.fresh,List.length_append,List.length_singleton]
   grind
 | set i x _ hi ih =>
   intro c hc;rw[zgw hi]at hc ⊢
   grind
end Store
end Go.J
