import Derived.Test.YtocdkgjpdnamlaaGreatJL
import Derived.Test.YtocdkgjpdnamlaaGreatJN
import Derived.Test.YtocdkgjpdnamlaaGreatJP
set_option linter.all false
noncomputable section
/- Two searches for zkM in a store say the same. -/
namespace Go.J
open Enc (enc)
def Store.sc(s:Store)(i:Int):List Int:=match s.slots[i.toNat]? with
 |some x=>ji [x.type]
 |none=>[]
def Store.er(s:Store)(i k:Int):Prop:=k∈s.sc i
def zFH(rec:Int->List Int->List Int×Bool):List Int->List Int->List Int×Bool
 | [],S=>(S,true)
 |v::l,S=>if (rec v S).2=true then zFH rec l (rec v S).1 else ((rec v S).1,false)
def zsk(S:List Int)(i:Int):Int:=(S[i.toNat]?).getD 0
def zI4 (s:Store):Nat->Int->List Int->List Int×Bool
 | 0,_,S=>(S,false)
 | f+1,i,S=>if zsk S i>0 then (S,decide (zsk S i=2))else
   if (zFH (zI4 s f) (s.sc i) (S.set i.toNat 1)).2=true then ((zFH (zI4 s f) (s.sc i) (S.set i.toNat 1)).1.set i.toNat 2,true)else ((zFH (zI4 s f) (s.sc i) (S.set i.toNat 1)).1,false)
def Store.cl(s:Store):Prop:=∀ i k,s.er i k->0<=k/\k<s.slots.length
theorem zpu{S:List Int}{i j v:Int}(hi:0<=i)(hl:i<S.length)(hj:0<=j):zsk (S.set i.toNat v) j=if j=i then v else zsk S j:=by
 unfold zsk;rw[List.getElem?_set];by_cases h:j=i
 . subst h;rw[if_pos rfl,if_pos rfl,if_pos (by omega)];rfl
 . rw[if_neg h,if_neg (by omega)]
def Store.zKF(s:Store)(S:List Int):Prop:=S.length=s.slots.length/\∀ j:Int,0<=j->zsk S j=0\/zsk S j=1\/zsk S j=2
theorem Store.zKF.set{s:Store}{S:List Int}(h:s.zKF S){i v:Int}(hi:0<=i)(hl:i<s.slots.length)(hv:v=0\/v=1\/v=2):s.zKF (S.set i.toNat v):=by
 refine⟨by rw[List.length_set];exact h.1,fun j hj=>?_⟩;rw[zpu hi (by rw[h.1];exact hl) hj];split
 . exact hv
 . exact h.2 j hj
abbrev Store.tg(s:Store):Int->Int->Prop:=Relation.TransGen s.er
def Store.zFI(s:Store):Bool:=(zFH (zI4 s (s.slots.length+1)) ((List.range s.slots.length).map fun i:Nat=>(i:Int)) (List.replicate s.slots.length 0)).2
end Go.J
/- The program's search for zkM: lengths,counts,signs. -/
namespace Go.J
open Enc (enc)
mutual
theorem Nl:∀ t:Ty,t.valid=true->t.BA=true
 | .mk k n i h l=>fun hv=>by
   have ha:=Ty.kG hv;rw[Ty.BA,zq l (fun u hu=>ha u hu),Bool.and_true];by_cases hk:k=1
   . subst hk;simp only[Ty.valid]at hv;simp at hv;simp[hv]
   . simp[hk]
theorem zq:∀ l:List Ty,(∀ u∈l,u.valid=true)->Ty.nI l=true
 | []=>fun _=>by rw[Ty.nI]
 |t::l=>fun h=>by rw[Ty.nI,Nl t (h t (List.mem_cons_self ..)),zq l (fun u hu=>h u (List.mem_cons_of_mem _ hu))];rfl
end
def Store.pv(s:Store):Bool:=decide (∀ x∈s.slots,s.K8 x)&&decide (∀ c∈s.trail,0<=c.id/\c.id<s.slots.length)&&s.zFI
end Go.J
/- Stores of tapes are valid. -/
namespace Go.J
open Enc (enc)
def zl1(D:List Decl):Prop:=∀ d∈D,FQ d.name=true/\d.name≠[45,62]/\d.name≠[73,110,116]/\d.params.length<=4
theorem PN(bits:Int):zl1 (jd bits):=by
 intro d hd;have key:∀ d∈Fg,FQ d.name=true/\d.name≠[45,62]/\d.name≠[73,110,116]/\d.params.length<=4:=by decide
 exact key d (xQ hd)
theorem QD{i:Nat}(h:i<=1000000):(aM (i:Int)).valid=true:=by
 simp[aM,Ty.valid];omega
theorem Nj{i:Int}(h0:0<=i)(h:i<=1000000):(aM i).valid=true:=by
 simp[aM,Ty.valid];omega
theorem QE:FW.valid=true:=by decide
theorem QF{n:List Nat}{l:List Ty}(h1:FQ n=true)(h2:n≠[45,62])(h3:n≠[73,110,116])(h4:l.length<=4)(hl:∀ x∈l,x.valid=true):(nR n l).valid=true:=by
 grind [Ty.FO,nR,Ty.valid]
theorem KP{a b:Ty}(ha:a.valid=true)(hb:b.valid=true):(lG a b).valid=true:=by
 simp[lG,nR,Ty.valid,Ty.Cr,ha,hb]
theorem sQ{D:List Decl}(hD:zl1 D){Lv:List Ty}(hl:∀ l∈Lv,l.valid=true)(d:Nat)(t:Tp):(dh d t D Lv).2.valid=true :=
 uC (P:=fun t=>t.valid=true) hl QE (fun dd hd l hll hx=>by
  obtain⟨h1,h2,h3,h4⟩:=hD dd hd
  exact QF h1 h2 h3 (by omega) hx) (fun a b ha hb=>KP ha hb) d t
theorem sN{n:Nat}(hn:n<=1000000):∀ u∈dK n,u.valid=true:=fun u hu=>by
 obtain⟨i,hi,rfl⟩:=Store.Cq hu;exact QD (by omega)
mutual
theorem Nk:∀ t:Ty,t.valid=true->t.short=true
 | .mk k n i h l=>fun hv=>by
   have ha:=Ty.kG hv;rw[Ty.short,zo l (fun u hu=>ha u hu),Bool.and_true,decide_eq_true_eq];unfold Ty.valid at hv
   have h12 : n.length ≤ 12 → n.length < 2^63 := fun h => by have:(12:Nat)<2^63:=by decide
                                                             omega
   refine h12 ?_;split at hv
   . simp at hv;rw[hv.1.1.2];decide
   . split at hv
     . simp at hv;rw[hv.1.2];decide
     . split at hv
       . simp[zcU]at hv;omega
       . split at hv
         . split at hv
           . rename_i e;rw[e];decide
           . split at hv
             . rename_i e;rw[e];decide
             . simp[FQ]at hv;omega
         . cases hv
theorem zo:∀ l:List Ty,(∀ u∈l,u.valid=true)->Ty.F5 l=true
 | []=>fun _=>by rw[Ty.F5]
 |t::l=>fun h=>by rw[Ty.F5,Nk t (h t (List.mem_cons_self ..)),zo l (fun u hu=>h u (List.mem_cons_of_mem _ hu))];rfl
end
namespace Store
def gs(x:Slot):Prop:=if x.bound=true then x.type.valid=true else x.type=Nv
structure jW(s:Store):Prop where
 len:s.slots.length<=1000
 YW:∀ x∈s.slots,gs x
theorem jW.set{s:Store}(h:jW s)(id:Int){x:Slot}(hx:gs x):jW (s.set id x).1:=by
 unfold Store.set;split
 . refine⟨by simp[h.len],fun y hy=>?_⟩;rcases List.mem_or_eq_of_mem_set hy with hy|rfl
   . exact h.YW y hy
   . exact hx
 . exact h
theorem Pg{s:Store}(h:jW s)(id:Int):gs (s.aJ id):=by
 unfold aJ
 cases ho:s.slot? id with
 |none=>rfl
 | some x =>
   obtain⟨i,_,hi,he⟩:=slot?_some ho;exact h.YW _ (List.mem_of_getElem? he)
theorem jW.fresh{s:Store}(h:jW s)(hl:s.slots.length<1000)(home:Int)(base:Bool):jW (s.fresh home base).1:=by
 refine⟨by simp[Store.fresh];omega,fun y hy=>?_⟩;simp only[Store.fresh,List.mem_append,List.mem_singleton]at hy;rcases hy with hy|rfl
 . exact h.YW y hy
 . rfl
theorem jW.lower{s:Store}(h:jW s)(home v:Int):jW (bf home s v):=by
 unfold bf;split
 . exact h.set _ (x:={ s.aJ v with home:=home }) (Pg h v)
 . exact h
theorem jW.lowers(home:Int):∀ (l:List Int) {s:Store},jW s->jW (l.foldl (bf home) s):=by
 intro l
 induction l with
 |nil=>intro s h;exact h
 |cons v l ih=>intro s h;exact ih (h.lower home v)
theorem F4{s:Store}{i:Int}(h:(s.slot? i).isSome=true):0<=i/\i<s.slots.length:=by
 obtain⟨x,hx⟩:=Option.isSome_iff_exists.1 h;obtain⟨k,rfl,hk,_⟩:=slot?_some hx;omega
theorem jW.join{s:Store}(h:jW s){i k:Int}(hi:(s.slot? i).isSome=true)(hk:(s.slot? k).isSome=true):jW (s.join i k):=by
 unfold Store.join;split
 . exact h
 . have h1:=F4 hi;have h2:=F4 hk;have hl:=h.len;exact(h.set _ (x:=s.joinL i k) (Pg h _)).set _ (x:=s.xE i k) (Nj (by omega) (by omega))
theorem jW.bind{s:Store}(h:jW s)(id:Int){t:Ty}(ht:t.valid=true):jW (s.bindM id t).1:=by
 unfold bindM;split
 . exact h
 split
 . exact h
 split
 . exact h
 split
 . exact h
 exact(jW.lowers _ _ h).set _ (x:={ s.aJ id with bound:=true,type:=t }) ht
theorem QL{s:Store}(h:jW s){t:Ty}(hb:s.bound t=true):(s.to t).valid=true:=by
 obtain⟨_,x,hx,hxb⟩:=kN hb;have:s.to t=x.type:=by unfold to;rw[hx]
 rw[this];obtain⟨i,_,hi,he⟩:=slot?_some hx;have hg:=h.YW _ (List.mem_of_getElem? he)
 grind [gs]
theorem yc{s:Store}(h:jW s):∀ (n:Nat) {t:Ty},t.valid=true->(s.bX n t).valid=true:=by
 intro n
 induction n with
 |zero=>intro t ht;exact ht
 | succ n ih =>
   intro t ht;unfold bX;split
   . rename_i hb;exact ih (QL h hb)
   . exact ht
theorem zs8{rec:Store->Ty->Ty->Store×Int}(hrec:∀ s a b,jW s->a.valid=true->b.valid=true->jW (rec s a b).1) :
 ∀ (l m:List Ty) (s:Store),jW s->(∀ x∈l,x.valid=true)->(∀ x∈m,x.valid=true)->jW (uL rec l m s).1:=by
 intro l
 induction l with
 |nil=>intro m s h _ _;exact h
 | cons x l ih =>
   intro m s h hl hm
   cases m with
   |nil=>exact h
   | cons y m =>
     have h1:=hrec s x y h (hl x (List.mem_cons_self ..)) (hm y (List.mem_cons_self ..));rw[uL];split
     . exact ih m _ h1 (fun z hz=>hl z (List.mem_cons_of_mem _ hz)) (fun z hz=>hm z (List.mem_cons_of_mem _ hz))
     . exact h1
theorem FR:∀ (d:Nat) (s:Store) (a b:Ty),jW s->a.valid=true->b.valid=true->jW (dC d s a b).1:=by
 intro d
 induction d with
 |zero=>intro s a b h _ _;exact h
 | succ d ih =>
   intro s a b h ha hb;have hx:(s.w16 a).valid=true:=yc h _ ha;have hy:(s.w16 b).valid=true:=yc h _ hb;rw[dC];unfold rM;split
   . exact h
   split
   . rename_i q1;split
     . rename_i q2;exact h.join (tF q1) (tF q2)
     . exact h.bind _ hy
   . split
     . exact h.bind _ hx
     . split
       . exact h
       . exact zs8 ih _ _ s h (Ty.kG hx) (Ty.kG hy)
theorem Tt{s:Store}{a b:Ty}(h:jW s)(ha:a.valid=true)(hb:b.valid=true):jW (ib s a b).1:=by
 unfold ib;split
 . exact FR _ s a b h ha hb
 . exact h
theorem Ext.lt{a b:Store}(h:Ext a b)(ha:∀ c∈a.trail,c.id<a.slots.length):∀ c∈b.trail,c.id<b.slots.length:=by
 induction h with
 |refl=>exact ha
 | fresh x g _ ih =>
   intro c hc;simp only[Store.fresh,List.mem_append,List.mem_singleton]at hc;simp only[Store.fresh,List.length_append,List.length_singleton]
   grind
 | set i x _ hi ih =>
   intro c hc;rw[eX hi]at hc ⊢
   grind
end Store
end Go.J
