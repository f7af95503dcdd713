import Derived.Test.YtfgmnebfhemnpaaGreatJL
import Derived.Test.YtfgmnebfhemnpaaGreatJN
import Derived.Test.YtfgmnebfhemnpaaGreatJP
set_option linter.all false
noncomputable section
/- Two searches for cycles in a store say the same. -/
namespace Go.J
open Enc (enc)
def Store.sc(s:Store)(i:Int):List Int:=match s.slots[i.toNat]? with
 |some x=>zbL [x.type]
 |none=>[]
def Store.er(s:Store)(i k:Int):Prop:=k∈s.sc i
def acL(rec:Int->List Int->List Int×Bool):List Int->List Int->List Int×Bool
 | [],S=>(S,true)
 |v::l,S=>if (rec v S).2=true then acL rec l (rec v S).1 else ((rec v S).1,false)
def at0(S:List Int)(i:Int):Int:=(S[i.toNat]?).getD 0
def acM (s:Store):Nat->Int->List Int->List Int×Bool
 | 0,_,S=>(S,false)
 | f+1,i,S=>if at0 S i>0 then (S,decide (at0 S i=2))else
   if (acL (acM s f) (s.sc i) (S.set i.toNat 1)).2=true then ((acL (acM s f) (s.sc i) (S.set i.toNat 1)).1.set i.toNat 2,true)else ((acL (acM s f) (s.sc i) (S.set i.toNat 1)).1,false)
def Store.cl(s:Store):Prop:=∀ i k,s.er i k->0<=k/\k<s.slots.length
theorem zkF{S:List Int}{i j v:Int}(hi:0<=i)(hl:i<S.length)(hj:0<=j):at0 (S.set i.toNat v) j=if j=i then v else at0 S j:=by
 unfold at0;rw[List.getElem?_set];by_cases h:j=i
 . subst h;rw[if_pos rfl,if_pos rfl,if_pos (by omega)];rfl
 . rw[if_neg h,if_neg (by omega)]
def Store.mk3(s:Store)(S:List Int):Prop:=S.length=s.slots.length/\∀ j:Int,0<=j->at0 S j=0\/at0 S j=1\/at0 S j=2
theorem Store.mk3.set{s:Store}{S:List Int}(h:s.mk3 S){i v:Int}(hi:0<=i)(hl:i<s.slots.length)(hv:v=0\/v=1\/v=2):s.mk3 (S.set i.toNat v):=by
 refine⟨by rw[List.length_set];exact h.1,fun j hj=>?_⟩;rw[zkF hi (by rw[h.1];exact hl) hj];split
 . exact hv
 . exact h.2 j hj
abbrev Store.tg(s:Store):Int->Int->Prop:=Relation.TransGen s.er
theorem zvR{S:List Int}{i:Int}(hi:0<=i)(hl:i<S.length)(h:at0 S i=0):(S.set i.toNat 1).count 0+1=S.count 0:=by
 refine zgq ?_;unfold at0 at h;have hlt:i.toNat<S.length:=by omega
 rw[List.getElem?_eq_getElem hlt]at h ⊢;exact congrArg some h
theorem zqh {s:Store} {fr:Int}:∀ (f:Nat) (i:Int) (S:List Int),(zdf s fr f i S).2=true->s.tg i fr:=by
 intro f
 induction f with
 |zero=>intro i S h;cases h
 | succ f ih =>
   intro i S h
   have hloop:∀ (l:List Int) (S:List Int),(∀ v∈l,s.er i v)->(ziA (zdf s fr f) fr l S).2=true->s.tg i fr:=by
    intro l
    induction l with
    |nil=>intro S _ h;cases h
    | cons v l ihl =>
      intro S hr h;have hv:=hr v (List.mem_cons_self ..);rw[ziA]at h;split at h
      . rename_i e;rw[<- e];exact .single hv
      . split at h
        . split at h
          . rename_i hb;have h1:=ih v _ hb;exact Relation.TransGen.trans (.single hv) h1
          . exact ihl _ (fun w hw=>hr w (List.mem_cons_of_mem _ hw)) h
        . exact ihl _ (fun w hw=>hr w (List.mem_cons_of_mem _ hw)) h
   rw[zdf]at h;split at h
   . rename_i x hx;split at h
     . exact hloop _ _ (fun v hv=>by unfold Store.er Store.sc;rw[hx];exact hv) h
     . cases h
   . cases h
def Store.ub(s:Store):Prop:=∀ (i:Int) (x:Slot),s.slots[i.toNat]?=some x->x.bound=false->s.sc i=[]
theorem zy9 {s:Store} (hc:s.cl) (hu:s.ub) {fr:Int}:∀ (f:Nat) (i:Int) (S:List Int),0<=i->i<s.slots.length->S.length=s.slots.length->S.count 0<f->(zdf s fr f i S).2=false ->
 (zdf s fr f i S).1.length=s.slots.length/\(zdf s fr f i S).1.count 0<=S.count 0/\(∀ j:Int,0<=j->at0 S j≠0->at0 (zdf s fr f i S).1 j≠0)/\∀ x:Int,0<=x->(x=i\/at0 S x=0/\at0 (zdf s fr f i S).1 x≠0)->∀ k,s.er x k->k≠fr/\at0 (zdf s fr f i S).1 k≠0:=by
 intro f
 induction f with
 |zero=>intro i S _ _ _ h;omega
 | succ f ih =>
   intro i S hi hl hS hcnt h
   have hloop:∀ (l:List Int) (S:List Int),(∀ v∈l,0<=v/\v<s.slots.length)->S.length=s.slots.length->S.count 0<=f->(ziA (zdf s fr f) fr l S).2=false ->
    (ziA (zdf s fr f) fr l S).1.length=s.slots.length/\(ziA (zdf s fr f) fr l S).1.count 0<=S.count 0/\(∀ j:Int,0<=j->at0 S j≠0->at0 (ziA (zdf s fr f) fr l S).1 j≠0)/\(∀ v∈l,v≠fr/\at0 (ziA (zdf s fr f) fr l S).1 v≠0) /\
      ∀ x:Int,0<=x->at0 S x=0->at0 (ziA (zdf s fr f) fr l S).1 x≠0->∀ k,s.er x k->k≠fr/\at0 (ziA (zdf s fr f) fr l S).1 k≠0:=by
    intro l
    induction l with
    |nil=>intro S _ hS _ _;exact⟨hS,Nat.le_refl _,fun j _ h=>h,fun v hv=>(by cases hv),fun x _ h1 h2=>absurd h1 h2⟩
    | cons v l ihl =>
      intro S hr hS hcnt h;obtain⟨v1,v2⟩:=hr v (List.mem_cons_self ..);have hvS:v<S.length:=by rw[hS];exact v2
      rw[ziA]at h ⊢;by_cases hvf:v=fr
      . rw[if_pos hvf]at h;cases h
      rw[if_neg hvf]at h ⊢;by_cases h0:S[v.toNat]?=some 0
      . rw [if_pos h0]at h ⊢;have hat:at0 S v=0:=by unfold at0;rw[h0];rfl
        have hc1:=zvR v1 hvS hat;by_cases hb:(zdf s fr f v (S.set v.toNat 1)).2=true
        . rw[if_pos hb]at h;cases h
        rw[if_neg hb]at h ⊢;obtain⟨a1,a2,a3,a4⟩:=ih v (S.set v.toNat 1) v1 v2 (by rw[List.length_set];exact hS) (by omega) (by simpa using hb);obtain⟨b1,b2,b3,b4,b5⟩:=ihl (zdf s fr f v (S.set v.toNat 1)).1 (fun w hw=>hr w (List.mem_cons_of_mem _ hw)) a1 (by omega) h
        have mono:∀ j:Int,0<=j->at0 S j≠0->at0 (zdf s fr f v (S.set v.toNat 1)).1 j≠0:=fun j hj h=>a3 j hj (by
         rw[zkF v1 hvS hj];split
         . decide
         . exact h)
        have hv1:at0 (zdf s fr f v (S.set v.toNat 1)).1 v≠0:=a3 v v1 (by rw[zkF v1 hvS v1,if_pos rfl];decide);refine⟨b1,by omega,fun j hj h=>b3 j hj (mono j hj h),fun w hw=>?_,fun x hx hx0 hx1 k hk=>?_⟩
        . rcases List.mem_cons.1 hw with rfl|hw
          . exact⟨hvf,b3 w v1 hv1⟩
          . exact b4 w hw
        . by_cases hy:at0 (zdf s fr f v (S.set v.toNat 1)).1 x=0
          . exact b5 x hx hy hx1 k hk
          . have hxk:x=v\/at0 (S.set v.toNat 1) x=0/\at0 (zdf s fr f v (S.set v.toNat 1)).1 x≠0:=by
             by_cases e:x=v
             . exact .inl e
             . exact .inr ⟨by rw[zkF v1 hvS hx,if_neg e];exact hx0,hy⟩
            obtain⟨c1,c2⟩:=a4 x hx hxk k hk;exact⟨c1,b3 k (hc x k hk).1 c2⟩
      . rw[if_neg h0]at h ⊢;obtain⟨b1,b2,b3,b4,b5⟩:=ihl S (fun w hw=>hr w (List.mem_cons_of_mem _ hw)) hS hcnt h;refine⟨b1,b2,b3,fun w hw=>?_,b5⟩;rcases List.mem_cons.1 hw with rfl|hw
        . refine⟨hvf,b3 w v1 ?_⟩;intro e;unfold at0 at e;have hlt:w.toNat<S.length:=by omega
          rw[List.getElem?_eq_getElem hlt]at e h0;exact h0 (congrArg some e)
        . exact b4 w hw
   rw[zdf]at h ⊢;have hin:i.toNat<s.slots.length:=by omega
   rw[List.getElem?_eq_getElem hin]at h ⊢;have hx:s.slots[i.toNat]?=some s.slots[i.toNat]:=List.getElem?_eq_getElem hin;generalize s.slots[i.toNat]=x at h hx;simp only at h ⊢;by_cases hb:x.bound=true
   . rw[if_pos hb]at h ⊢;have hsc:s.sc i=zbL [x.type]:=by unfold Store.sc;rw[hx]
     obtain⟨b1,b2,b3,b4,b5⟩:=hloop (zbL [x.type]) S (fun v hv=>hc i v (by unfold Store.er;rw[hsc];exact hv)) hS (by omega) h;refine⟨b1,b2,b3,fun y hy hyc k hk=>?_⟩;rcases hyc with rfl|⟨h1,h2⟩
     . unfold Store.er at hk;rw[hsc]at hk;exact b4 k hk
     . exact b5 y hy h1 h2 k hk
   . rw[if_neg hb]at h ⊢;refine⟨hS,Nat.le_refl _,fun j _ h=>h,fun y hy hyc k hk=>?_⟩;rcases hyc with rfl|⟨h1,h2⟩
     . unfold Store.er at hk;rw[hu y x hx (by simpa using hb)]at hk;cases hk
     . exact absurd h1 h2
theorem zyU(n:Nat)(j:Int):at0 (List.replicate n 0) j=0:=by
 unfold at0;rw[List.getElem?_replicate];split<;>rfl
theorem zBi {s:Store} (hc:s.cl) (hu:s.ub) {i:Nat} (hi:i<s.slots.length):s.cyc i=true↔s.tg i i:=by
 constructor
 . intro h;exact zqh _ _ _ h
 . intro h;refine Classical.byContradiction fun hn=>?_
   have hf:(zdf s i (s.slots.length+1) i (List.replicate s.slots.length 0)).2=false:=by unfold Store.cyc at hn;simpa using hn
   obtain⟨h1,h2,h3,h4⟩:=zy9 hc hu (fr:=(i:Int)) (s.slots.length+1) (i:Int) (List.replicate s.slots.length 0) (by omega) (by omega) (by simp) (by rw[List.count_replicate_self];omega) hf
   have key:∀ y,s.tg i y->y≠(i:Int)/\at0 (zdf s i (s.slots.length+1) i (List.replicate s.slots.length 0)).1 y≠0:=by
    intro y hy
    induction hy with
    |single h=>exact h4 i (by omega) (.inl rfl) _ h
    | tail hp h ih =>
      rename_i b c
      exact h4 b (by
       cases hp with
       |single h=>exact(hc _ _ h).1
       |tail _ h=>exact(hc _ _ h).1) (.inr ⟨zyU _ _,ih.2⟩) _ h
   exact(key i h).1 rfl
def Store.acAll(s:Store):Bool:=(acL (acM s (s.slots.length+1)) ((List.range s.slots.length).map fun i:Nat=>(i:Int)) (List.replicate s.slots.length 0)).2
theorem zB2 {s:Store} {x:Int} (h:Acc (fun k j=>s.er j k) x):¬ s.tg x x:=by
 have key:∀ x,Acc (fun k j=>s.er j k) x->∀ y,s.tg x y->Acc (fun k j=>s.er j k) y:=by
  intro x hx y hy
  induction hy with
  |single h=>exact hx.inv h
  |tail _ h ih=>exact ih.inv h
 induction h with
 | intro x hx ih =>
   intro ht
   have first:∃ y,s.er x y/\(y=x\/s.tg y x):=by
    have:∀ z,s.tg x z->∃ y,s.er x y/\(y=z\/s.tg y z):=by
     intro z hz
     induction hz with
     |single h=>exact⟨_,h,.inl rfl⟩
     | tail _ h ihz =>
       obtain⟨y,hy,hyz⟩:=ihz;rcases hyz with rfl|hyz
       . exact⟨y,hy,.inr (.single h)⟩
       . exact⟨y,hy,.inr (.tail hyz h)⟩
    exact this x ht
   obtain⟨y,hy,hyx⟩:=first;rcases hyx with rfl|hyx
   . exact ih y hy (.single hy)
   . exact ih y hy (.tail hyx hy)
end Go.J
/- The program's search for cycles: lengths,counts,signs. -/
namespace Go.J
open Enc (enc)
def Store.acOk(s:Store):Prop:=s.slots.length<=1000/\∀ x∈s.slots,x.type.ok=true/\x.type.size<=10000/\(∀ v∈zbL [x.type],0<=v/\v<s.slots.length)/\zfc [x.type] []=zbL [x.type]
mutual
theorem zhi:∀ t:Ty,t.valid=true->t.leafy=true
 | .mk k n i h l=>fun hv=>by
   have ha:=Ty.valid_args hv;rw[Ty.leafy,zfh l (fun u hu=>ha u hu),Bool.and_true];by_cases hk:k=1
   . subst hk;simp only[Ty.valid]at hv;simp at hv;simp[hv]
   . simp[hk]
theorem zfh:∀ l:List Ty,(∀ u∈l,u.valid=true)->Ty.leafys l=true
 | []=>fun _=>by rw[Ty.leafys]
 |t::l=>fun h=>by rw[Ty.leafys,zhi t (h t (List.mem_cons_self ..)),zfh l (fun u hu=>h u (List.mem_cons_of_mem _ hu))];rfl
end
theorem zvT{t:Ty}(h:t.valid=true):zfc [t] []=zbL [t]:=(zkW (by rw[Ty.leafys,zhi t h];rfl)).symm
theorem zhf:zbL [ty0]=[]:=by decide
theorem zBl:zfc [ty0] []=[]:=by
 rw[<- zkW (by decide:Ty.leafys [ty0]=true)];exact zhf
theorem Store.acOk_of{s:Store}(h:s.fine)(hx:∀ x∈s.slots,s.slotOk x):s.acOk :=
 ⟨h.1,fun x hm=>by
   obtain⟨h1,_,h3⟩:=h.2.2 x hm;refine⟨h1,h3,?_⟩;have:=hx x hm;unfold Store.slotOk at this;by_cases hb:x.bound=true
   . rw[if_pos hb]at this;exact⟨fun v hv=>⟨(zhe this.1 v hv).1,this.2 v hv⟩,zvT this.1⟩
   . rw[if_neg hb]at this;rw[this,zhf,zBl]
     exact⟨fun v hv=>(by cases hv),rfl⟩⟩
theorem Store.cl_of{s:Store}(hx:s.acOk):s.cl:=fun i k h=>by
 unfold Store.er Store.sc at h;split at h
 . rename_i x e;exact(hx.2 x (List.mem_of_getElem? e)).2.2.1 k h
 . cases h
theorem Store.ub_of{s:Store}(hx:∀ x∈s.slots,s.slotOk x):s.ub:=fun i x e hb=>by
 unfold Store.sc;rw[e];have:=hx x (List.mem_of_getElem? e);unfold Store.slotOk at this;rw[if_neg (by rw[hb];decide)]at this;show zbL [x.type]=[];rw[this];exact zhf
def Store.pv(s:Store):Bool:=decide (∀ x∈s.slots,s.slotOk x)&&decide (∀ c∈s.trail,0<=c.id/\c.id<s.slots.length)&&s.acAll
end Go.J
/- Stores of tapes are valid. -/
namespace Go.J
open Enc (enc)
def zIt(D:List Decl):Prop:=∀ d∈D,zdS d.name=true/\d.name≠[45,62]/\d.name≠[73,110,116]/\d.params.length<=4
theorem znK(bits:Int):zIt (zaG bits):=by
 intro d hd;have key:∀ d∈allD,zdS d.name=true/\d.name≠[45,62]/\d.name≠[73,110,116]/\d.params.length<=4:=by decide
 exact key d (zfa hd)
theorem zjk{i:Nat}(h:i<=1000000):(zas (i:Int)).valid=true:=by
 simp[zas,Ty.valid];omega
theorem zmX{i:Int}(h0:0<=i)(h:i<=1000000):(zas i).valid=true:=by
 simp[zas,Ty.valid];omega
theorem ziC:(zaw 1 0).valid=true:=by decide
theorem zpp:tInt.valid=true:=by decide
theorem zpq{n:List Nat}{l:List Ty}(h1:zdS n=true)(h2:n≠[45,62])(h3:n≠[73,110,116])(h4:l.length<=4)(hl:∀ x∈l,x.valid=true):(zfO n l).valid=true:=by
 have:=Ty.valids_iff.2 hl;simp[zfO,Ty.valid,h1,h2,h3,h4,this]
theorem zkY{a b:Ty}(ha:a.valid=true)(hb:b.valid=true):(zcy a b).valid=true:=by
 simp[zcy,zfO,Ty.valid,Ty.valids,ha,hb]
theorem zd6{D:List Decl}(hD:zIt D){Lv:List Ty}(hl:∀ l∈Lv,l.valid=true)(d:Nat)(t:Tp):(typeM d t D Lv).2.valid=true :=
 zfi (P:=fun t=>t.valid=true) hl zpp (fun dd hd l hll hx=>by
  obtain⟨h1,h2,h3,h4⟩:=hD dd hd
  exact zpq h1 h2 h3 (by omega) hx) (fun a b ha hb=>zkY ha hb) d t
theorem zeL{n:Nat}(hn:n<=1000000):∀ u∈zaL n,u.valid=true:=fun u hu=>by
 obtain⟨i,hi,rfl⟩:=Store.varTs_mem hu;exact zjk (by omega)
mutual
theorem zhh:∀ t:Ty,t.valid=true->t.short=true
 | .mk k n i h l=>fun hv=>by
   have ha:=Ty.valid_args hv;rw[Ty.short,zfg l (fun u hu=>ha u hu),Bool.and_true,decide_eq_true_eq];unfold Ty.valid at hv
   have h12 : n.length ≤ 12 → n.length < 2^63 := fun h => by have:(12:Nat)<2^63:=by decide
                                                             omega
   refine h12 ?_;split at hv
   . simp at hv;rw[hv.1.1.2];decide
   . split at hv
     . simp at hv;rw[hv.1.2];decide
     . split at hv
       . simp[zhQ]at hv;omega
       . split at hv
         . split at hv
           . rename_i e;rw[e];decide
           . split at hv
             . rename_i e;rw[e];decide
             . simp[zdS]at hv;omega
         . cases hv
theorem zfg:∀ l:List Ty,(∀ u∈l,u.valid=true)->Ty.shorts l=true
 | []=>fun _=>by rw[Ty.shorts]
 |t::l=>fun h=>by rw[Ty.shorts,zhh t (h t (List.mem_cons_self ..)),zfg l (fun u hu=>h u (List.mem_cons_of_mem _ hu))];rfl
end
namespace Store
def gs(x:Slot):Prop:=if x.bound=true then x.type.valid=true else x.type=ty0
structure AllV(s:Store):Prop where
 len:s.slots.length<=1000
 tys:∀ x∈s.slots,gs x
theorem AllV.set{s:Store}(h:AllV s)(id:Int){x:Slot}(hx:gs x):AllV (s.set id x).1:=by
 unfold Store.set;split
 . refine⟨by simp[h.len],fun y hy=>?_⟩;rcases List.mem_or_eq_of_mem_set hy with hy|rfl
   . exact h.tys y hy
   . exact hx
 . exact h
theorem zoG{s:Store}(h:AllV s)(id:Int):gs (s.slotD id):=by
 unfold slotD
 cases ho:s.slot? id with
 |none=>rfl
 | some x =>
   obtain⟨i,_,hi,he⟩:=slot?_some ho;exact h.tys _ (List.mem_of_getElem? he)
theorem AllV.fresh{s:Store}(h:AllV s)(hl:s.slots.length<1000)(home:Int)(base:Bool):AllV (s.fresh home base).1:=by
 refine⟨by simp[Store.fresh];omega,fun y hy=>?_⟩;simp only[Store.fresh,List.mem_append,List.mem_singleton]at hy;rcases hy with hy|rfl
 . exact h.tys y hy
 . rfl
theorem AllV.lower{s:Store}(h:AllV s)(home v:Int):AllV (lowerOne home s v):=by
 unfold lowerOne;split
 . exact h.set _ (x:={ s.slotD v with home:=home }) (zoG h v)
 . exact h
theorem AllV.lowers(home:Int):∀ (l:List Int) {s:Store},AllV s->AllV (l.foldl (lowerOne home) s):=by
 intro l
 induction l with
 |nil=>intro s h;exact h
 |cons v l ih=>intro s h;exact ih (h.lower home v)
theorem zjq{s:Store}{i:Int}(h:(s.slot? i).isSome=true):0<=i/\i<s.slots.length:=by
 obtain⟨x,hx⟩:=Option.isSome_iff_exists.1 h;obtain⟨k,rfl,hk,_⟩:=slot?_some hx;omega
theorem AllV.join{s:Store}(h:AllV s){i k:Int}(hi:(s.slot? i).isSome=true)(hk:(s.slot? k).isSome=true):AllV (s.join i k):=by
 unfold Store.join;split
 . exact h
 . have h1:=zjq hi;have h2:=zjq hk;have hl:=h.len;exact(h.set _ (x:=s.joinL i k) (zoG h _)).set _ (x:=s.joinH i k) (zmX (by omega) (by omega))
theorem AllV.bind{s:Store}(h:AllV s)(id:Int){t:Ty}(ht:t.valid=true):AllV (s.bindM id t).1:=by
 unfold bindM;split
 . exact h
 split
 . exact h
 split
 . exact h
 split
 . exact h
 exact(AllV.lowers _ _ h).set _ (x:={ s.slotD id with bound:=true,type:=t }) ht
theorem zol{s:Store}(h:AllV s){t:Ty}(hb:s.bound t=true):(s.to t).valid=true:=by
 obtain⟨_,x,hx,hxb⟩:=bound_true hb;have:s.to t=x.type:=by unfold to;rw[hx]
 rw[this];obtain⟨i,_,hi,he⟩:=slot?_some hx;have hg:=h.tys _ (List.mem_of_getElem? he);unfold gs at hg;rw[if_pos hxb]at hg;exact hg
theorem zff{s:Store}(h:AllV s):∀ (n:Nat) {t:Ty},t.valid=true->(s.walkN n t).valid=true:=by
 intro n
 induction n with
 |zero=>intro t ht;exact ht
 | succ n ih =>
   intro t ht;unfold walkN;split
   . rename_i hb;exact ih (zol h hb)
   . exact ht
theorem zE2{rec:Store->Ty->Ty->Store×Int}(hrec:∀ s a b,AllV s->a.valid=true->b.valid=true->AllV (rec s a b).1) :
 ∀ (l m:List Ty) (s:Store),AllV s->(∀ x∈l,x.valid=true)->(∀ x∈m,x.valid=true)->AllV (uL rec l m s).1:=by
 intro l
 induction l with
 |nil=>intro m s h _ _;exact h
 | cons x l ih =>
   intro m s h hl hm
   cases m with
   |nil=>exact h
   | cons y m =>
     have h1:=hrec s x y h (hl x (List.mem_cons_self ..)) (hm y (List.mem_cons_self ..));rw[uL];split
     . exact ih m _ h1 (fun z hz=>hl z (List.mem_cons_of_mem _ hz)) (fun z hz=>hm z (List.mem_cons_of_mem _ hz))
     . exact h1
theorem zjm:∀ (d:Nat) (s:Store) (a b:Ty),AllV s->a.valid=true->b.valid=true->AllV (zbC d s a b).1:=by
 intro d
 induction d with
 |zero=>intro s a b h _ _;exact h
 | succ d ih =>
   intro s a b h ha hb;have hx:(s.w16 a).valid=true:=zff h _ ha;have hy:(s.w16 b).valid=true:=zff h _ hb;rw[zbC];unfold uStep;split
   . exact h
   split
   . rename_i q1;split
     . rename_i q2;exact h.join (isSlot_some q1) (isSlot_some q2)
     . exact h.bind _ hy
   . split
     . exact h.bind _ hx
     . split
       . exact h
       . exact zE2 ih _ _ s h (Ty.valid_args hx) (Ty.valid_args hy)
theorem zqV{s:Store}{a b:Ty}(h:AllV s)(ha:a.valid=true)(hb:b.valid=true):AllV (topM s a b).1:=by
 unfold topM;split
 . exact zjm _ s a b h ha hb
 . exact h
theorem zAH(t:Tp):∀ k,k<=1000->AllV (frM t k).2/\(frM t k).2.slots.length=k:=by
 intro k
 induction k with
 |zero=>exact fun _=>⟨⟨Nat.zero_le _,fun x hx=>(by cases hx)⟩,rfl⟩
 | succ k ih =>
   intro hk;obtain⟨i1,i2⟩:=ih (by omega);exact⟨i1.fresh (by omega) _ _,by rw[frM];simp[Store.fresh,i2]⟩
theorem z9j{D:List Decl}(hD:zIt D){n:Nat}(hn:n<=1000000){t:Tp}{s:Store}(h:AllV s):∀ k,AllV (unM D n t s k).2:=by
 intro k
 induction k with
 |zero=>exact h
 | succ k ih =>
   rw[unM];exact zqV ih (zd6 hD (zeL hn) _ _) (zd6 hD (fun u hu=>(List.mem_append.1 hu).elim (zeL hn u) fun h=>by rw[List.mem_singleton.1 h];exact ziC) _ _)
theorem zpy(t:Tp){D:List Decl}(hD:zIt D):AllV (storeM t D).2:=z9j hD (by have:=storeN_le t;omega) (zAH _ _ (by have:=storeN_le t;omega)).1 _
theorem Ext.lt{a b:Store}(h:Ext a b)(ha:∀ c∈a.trail,c.id<a.slots.length):∀ c∈b.trail,c.id<b.slots.length:=by
 induction h with
 |refl=>exact ha
 | fresh x g _ ih =>
   intro c hc;simp only[Store.fresh,List.mem_append,List.mem_singleton]at hc;simp only[Store.fresh,List.length_append,List.length_singleton];rcases hc with hc|rfl
   . have:=ih c hc;omega
   . simp only;omega
 | set i x _ hi ih =>
   intro c hc;rw[set_some hi]at hc ⊢;simp only[List.mem_append,List.mem_singleton,List.length_set]at hc ⊢;rcases hc with hc|rfl
   . exact ih c hc
   . simp only;omega
theorem zlO{l:List Ty}(h:∀ t∈l,t.valid=true->∀ out:List Ty,∀ x∈zad 1 t out,x∈out\/Occ x t)(hv:∀ t∈l,t.valid=true):∀ out:List Ty,∀ x∈zJ 1 l out,x∈out\/∃ t∈l,Occ x t:=by
 induction l with
 |nil=>intro out x hx;exact .inl hx
 | cons a l ih =>
   intro out x hx;simp only[zJ]at hx;rcases ih (fun t ht=>h t (List.mem_cons_of_mem _ ht)) (fun t ht=>hv t (List.mem_cons_of_mem _ ht)) _ x hx with h1|⟨t,ht,ho⟩
   . rcases h a (List.mem_cons_self ..) (hv a (List.mem_cons_self ..)) out x h1 with h2|h2
     . exact .inl h2
     . exact .inr ⟨a,List.mem_cons_self ..,h2⟩
   . exact .inr ⟨t,List.mem_cons_of_mem _ ht,ho⟩
theorem zkZ{t:Ty}(h:t.valid=true)(hk:t.kind=1):t.args=[]:=by
 obtain⟨k,n,i,hh,l⟩:=t;simp only[Ty.kind_mk]at hk;subst hk;unfold Ty.valid at h;simp at h;simp[h]
theorem znA (t:Ty):t.valid=true->∀ out:List Ty,∀ x∈zad 1 t out,x∈out\/Occ x t:=by
 induction t using Ty.ind with
 | _ t ih =>
   intro hv out x hx;rw[zb1]at hx;split at hx
   . rename_i hk;split at hx
     . exact .inl hx
     . rcases List.mem_append.1 hx with hx|hx
       . exact .inl hx
       . rw[List.mem_singleton.1 hx];exact .inr (.self hk.1)
   . rename_i hk;rcases zlO ih (Ty.valid_args hv) out x hx with h|⟨u,hu,ho⟩
     . exact .inl h
     . refine .inr (.arg (fun e=>hk ⟨e,zkZ hv e⟩) hu ho)
theorem zkV{t:Ty}(h:t.valid=true){v:Int}(hv:v∈zbL [t]):∃ u,Occ u t/\u.id=v:=by
 obtain⟨x,hx,rfl⟩:=zlF hv;rcases znA t h [] x (by simpa [zJ]using hx)with h1|h1
 . cases h1
 . exact⟨x,h1,rfl⟩
theorem zAJ {s:Store} (h:AllV s) (hc:s.cl) (hu:s.ub) {t:Ty} (hf:s.Fin t):t.valid=true->∀ u,Occ u t->0<=u.id->Acc (fun k j=>s.er j k) u.id:=by
 refine Fin.ind (p:=fun t=>t.valid=true->∀ u,Occ u t->0<=u.id->Acc (fun k j=>s.er j k) u.id) (fun t hb ih hv u ho h0=>?_) (fun t hb ih hv u ho h0=>?_) hf
 . obtain⟨hk,x,hx,hxb⟩:=bound_true hb;obtain rfl:=ho.var hk;have hto:s.to u=x.type:=by unfold to;rw[hx]
   have htv:=zol h hb;obtain⟨i,hi,hil,he⟩:=slot?_some hx;refine⟨_,fun k hk=>?_⟩;have hk0:=(hc _ _ hk).1;unfold Store.er Store.sc at hk;rw[hi,Int.toNat_natCast,he]at hk;simp only at hk;rw[<- hto]at hk;obtain⟨w,hw,rfl⟩:=zkV htv hk;exact ih htv w hw hk0
 . by_cases hk:t.kind=1
   . obtain rfl:=ho.var hk;refine⟨_,fun k hk'=>?_⟩;obtain⟨i,hi⟩:=Int.eq_ofNat_of_zero_le h0
     cases he:s.slots[i]? with
     | none =>
       unfold Store.er Store.sc at hk';rw[hi,Int.toNat_natCast,he]at hk';cases hk'
     | some x =>
       have hxb:x.bound=false:=by
        rw[bound_eq hk (x:=x) (by rw[hi,slot?_nat];exact he)]at hb;exact hb
       have:=hu u.id x (by rw[hi,Int.toNat_natCast];exact he) hxb;unfold Store.er at hk';rw[this]at hk';cases hk'
   . cases ho with
     |self hk2=>exact absurd hk2 hk
     |arg _ hx ho2=>exact ih _ hx (Ty.valid_args hv _ hx) u ho2 h0
end Store
end Go.J
