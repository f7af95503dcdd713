import Derived.Test.YtpcmebclpindjaaGreatJK
import Derived.Test.YtpcmebclpindjaaGreatJQuiet
set_option linter.all false
noncomputable section
/- Functions that read variables of their caller: closures,and functions that are handed them,perhaps with a row. -/
namespace Go.J
open Enc (enc)
def zhW:Nat->List (List V)->List (Nat×Obj)
 |_,[]=>[]
 |i,c::l=>(i,box c)::zhW (i+1) l
def zkF:Nat->Nat->List V
 |_,0=>[]
 |i,n+1=>.ptr i 0 0::zkF (i+1) n
@[simp] theorem z6O {i:Nat}:zhW i []=[]:=(rfl)
@[simp] theorem zj0 {i:Nat} {c:List V} {l:List (List V)}:zhW i (c::l)=(i,box c)::zhW (i+1) l:=(rfl)
@[simp] theorem z0X {i:Nat}:zkF i 0=[]:=(rfl)
@[simp] theorem zm9 {i n:Nat}:zkF i (n+1)=.ptr i 0 0::zkF (i+1) n:=(rfl)
def rdC(g:Option Nat)(l:List V):List V:=match g with
 |none=>l
 |some g=>[.func g l]
@[simp] theorem z4V {l:List V}:rdC none l=l:=(rfl)
@[simp] theorem z4U {g:Nat} {l:List V}:rdC (some g) l=[.func g l]:=(rfl)
def zkm (g:Option Nat) (l:List V):Option (List V):=match g with
 |none=>some l
 | some g=>(match l with
   | [.func g' l]=>gd (Nat.beq g' g) (some l)
   |_=>none)
@[simp] theorem zzK {l:List V}:zkm none l=some l:=(rfl)
@[simp] theorem zzJ {g:Nat} {l:List V}:zkm (some g) [.func g l]=some l:=by
  show gd (Nat.beq g g) (some l)=_;rw[beq_true.2 rfl];rfl
theorem zo7{g:Option Nat}{l m:List V}(h:zkm g l=some m):l=rdC g m:=by
 cases g with
 |none=>cases h;rfl
 | some g =>
   unfold zkm at h;dsimp only at h;split at h
   . simp only[zk,beq_true]at h;obtain⟨rfl,h⟩:=h;cases h;rfl
   . cases h
def z3e(o:Obj):Option (List V):=match o with
 |.arr n 0 [c] true false false=>gd (et (Nat.beq n (zC c)) (c.all V.pure2)) (some c)
 |_=>none
theorem zqI{o:Obj}{c:List V}(h:z3e o=some c):o=box c/\c.all V.pure2=true:=by
 unfold z3e at h;split at h
 . simp only[zk,et_true,beq_true]at h;obtain⟨⟨rfl,h1⟩,h⟩:=h;cases h;exact⟨rfl,h1⟩
 . cases h
@[simp] theorem zDj {n:Nat} {c:List V}:z3e (.arr n 0 [c] true false false)=gd (et (Nat.beq n (zC c)) (c.all V.pure2)) (some c):=(rfl)
def zcR(hs:HS):List V->Option (List (Nat×List V))
 | []=>some []
 |.ptr id 0 0::l=>ob (hs.H.get id) fun o=>ob (z3e o) fun c=>gd (Nat.blt id hs.n) (ob (zcR hs l) fun r=>some ((id,c)::r))
 |_=>none
@[simp] theorem zzI {hs:HS}:zcR hs []=some []:=by rw[zcR]
@[simp] theorem zzH {hs:HS} {id:Nat} {l:List V}:zcR hs (.ptr id 0 0::l)=ob (hs.H.get id) fun o=>ob (z3e o) fun c=>gd (Nat.blt id hs.n) (ob (zcR hs l) fun r=>some ((id,c)::r)):=by rw[zcR]
theorem zlW{hs:HS}:∀ {l:List V} {q:List (Nat×List V)},zcR hs l=some q->l=q.map (fun p=>V.ptr p.1 0 0)/\∀ p∈q,hs.H.get p.1=some (box p.2)/\p.1<hs.n/\p.2.all V.pure2=true:=by
 intro l
 induction l with
 |nil=>intro q h;rw[zcR]at h;cases h;exact⟨rfl,fun p hp=>by cases hp⟩
 | cons v l ih =>
   intro q h;unfold zcR at h;split at h
   . rename_i e;cases e
   . rename_i id m e;cases e;simp only[za,zk,blt_true]at h;obtain⟨o,ho,c,hc,hlt,r,hr,h⟩:=h;cases h;obtain⟨rfl,hp⟩:=zqI hc;obtain⟨rfl,ih2⟩:=ih hr;refine⟨rfl,fun p hp2=>?_⟩;rcases List.mem_cons.1 hp2 with rfl|hp2
     . exact⟨ho,hlt,hp⟩
     . exact ih2 p hp2
   . cases h
def zbo(v:V):List Nat:=match v with
 |.own id _ _ _ _=>[id]
 |_=>[]
@[simp] theorem zyv {id g o n:Nat} {c:Option Nat}:zbo (.own id g o n c)=[id]:=(rfl)
@[simp] theorem zwe:zbo .snil=[]:=(rfl)
@[simp] theorem z0H {es:List (List V)} {b:Bool}:zbo (.sl es b)=[]:=(rfl)
@[simp] theorem zyx {l:List V}:zbo (.agg l)=[]:=(rfl)
@[simp] theorem zyw {k:IntKind} {n:Int}:zbo (.int k n)=[]:=(rfl)
def zhw(sz:Nat)(hs:HS)(v:V):Option V:=match v with
 |.snil=>some (.sl [] false)
 |.own i g o n c=>ob (rowOf sz hs (.own i g o n c)) fun es=>some (.sl es false)
 |v=>gd v.pure (some v)
@[simp] theorem zyh {sz:Nat} {hs:HS}:zhw sz hs .snil=some (.sl [] false):=(rfl)
@[simp] theorem z0h {sz:Nat} {hs:HS} {i g o n:Nat} {c:Option Nat}:zhw sz hs (.own i g o n c)=ob (rowOf sz hs (.own i g o n c)) fun es=>some (.sl es false):=(rfl)
@[simp] theorem z4i {sz:Nat} {hs:HS} {es:List (List V)} {b:Bool}:zhw sz hs (.sl es b)=gd (V.sl es b).pure (some (.sl es b)):=(rfl)
@[simp] theorem z0j {sz:Nat} {hs:HS} {l:List V}:zhw sz hs (.agg l)=gd (V.agg l).pure (some (.agg l)):=(rfl)
@[simp] theorem z0i {sz:Nat} {hs:HS} {k:IntKind} {n:Int}:zhw sz hs (.int k n)=gd (V.int k n).pure (some (.int k n)):=(rfl)
def RdX(sz n:Nat)(X X0:V)(RL:List (Nat×Obj)):Prop:=(X0=X/\RL=[]/\X.pure=true)\/∃ es,X=.sl es false/\X0=oV n es/\RL=oH n sz es/\(es.all fun e=>e.all V.pure2)=true
def rdS(sz:Nat)(g:Option Nat)(F:V->List (List V)->Option V):Spec:=fun vs hs=>match vs with
 |x::cl=>ob (zkm g cl) fun l=>ob (zcR hs l) fun q=>gd (nodupB (q.map Prod.fst++zbo x)) (ob (zhw sz hs x) fun X=>ob (F X (q.map Prod.snd)) fun r=>gd r.pure (some (r,hs)))
 |_=>none
theorem zjJ{H:PT Obj}:∀ {l:List (Nat×Obj)},(∀ p∈l,H.get p.1=some p.2)->∀ id,(zeM H l).get id=H.get id:=by
 intro l
 induction l with
 |nil=>intro _ id;rfl
 | cons p l ih =>
   intro h id;show ((zeM H l).set p.1 p.2).get id=_;rw[PT.set_get];split
   . rename_i e;rw[e];exact(h p (List.mem_cons_self ..)).symm
   . exact ih (fun q hq=>h q (List.mem_cons_of_mem _ hq)) id
theorem zqR(l:List (List V)):∀ i,(zhW i l).map Prod.fst=List.range' i l.length:=by
 induction l with
 |nil=>intro i;rfl
 |cons c l ih=>intro i;rw[zj0,List.map_cons,ih (i+1)];rfl
theorem zqQ{l:List (List V)}:∀ {i:Nat} {p:Nat×Obj},p∈zhW i l->∃ j c,p=(i+j,box c)/\l[j]?=some c:=by
 induction l with
 |nil=>intro i p h;cases h
 | cons c l ih =>
   intro i p h;rw[zj0]at h;rcases List.mem_cons.1 h with rfl|h
   . exact⟨0,c,rfl,rfl⟩
   . obtain⟨j,c',rfl,h2⟩:=ih h;exact⟨j+1,c',by rw[show i+1+j=i+(j+1) by omega],by simpa using h2⟩
theorem zh7(n:Nat):∀ i,zkF i n=(List.range' i n).map fun j=>V.ptr j 0 0:=by
 induction n with
 |zero=>intro i;rfl
 |succ n ih=>intro i;rw[zm9,ih];rfl
theorem getD_lt{l:List Nat}{i:Nat}(h:i<l.length):l.getD i 0=l[i]:=by simp[List.getD,h]
theorem zl6{l:List Nat}(h:nodupB l=true){i j:Nat}(hi:i<l.length)(hj:j<l.length)(e:l.getD i 0=l.getD j 0):i=j:=by
 have:=zi8 h;rw[getD_lt hi,getD_lt hj]at e;exact(List.getElem_inj this).1 e
section
variable {ρ:Nat->Value}{E:Env}{f:FuncId}{fn:Func}{sc:SC}{T:PT V}{g:Option Nat}{X X0 r:V}{RL:List (Nat×Obj)}{cs:List (List V)}{sz:Nat}
theorem zgN (hρ:Good ρ) (hcon:ConsOk ρ E) (hP:E.P.follows .mixedOrders=true) (hN:zcZ E.P) (hf:E.P.funcs[f]?=some fn) (hb:fn.body.bind zo=some sc)
 (he:zba fn.ntmps (X0::rdC g (zkF 0 cs.length)) 0 .leaf=some T) (hr:r.pure=true)
 (h:Wp ρ E (cs.length+RL.length) fn.ntmps sc T { H:=mkP (zhW 0 cs++RL),n:=cs.length+RL.length,log:=[] } (Leaves E.P fn (GivesL (cs.length+RL.length) r (zhW 0 cs++RL))))
 {x:V} {hs:HS} {q:List (Nat×List V)} (hq:q.map Prod.snd=cs) (hc:∀ p∈q,hs.H.get p.1=some (box p.2)/\p.1<hs.n/\p.2.all V.pure2=true) (hnd:nodupB (q.map Prod.fst++zbo x)=true)
 (hx:(X0=x/\RL=[]/\x.pure=true/\zbo x=[])\/∃ es i,x=oV i es/\es≠[]/\X0=oV cs.length es/\RL=oH cs.length sz es/\(es.all fun e=>e.all V.pure2)=true/\hs.H.get i=some (oO sz es)/\i<hs.n) :
 CallOk ρ E.P f (x::rdC g (q.map fun p=>V.ptr p.1 0 0)) hs r hs:=by
 have hql:q.length=cs.length:=by rw[<- hq];simp
 have hk:(q.map Prod.fst++zbo x).length=cs.length+RL.length:=by
  rcases hx with⟨_,rfl,_,h4⟩|⟨es,i,rfl,hne,_,rfl,_⟩
  . rw[h4];simp[hql]
  . rw[zbs hne,zH hne];simp[hql]
 have hfst:(zhW 0 cs++RL).map Prod.fst=List.range (cs.length+RL.length):=by
  rw[List.map_append,zqR,List.range_eq_range'];rcases hx with⟨_,rfl,_,_⟩|⟨es,i,_,hne,_,rfl,_⟩
  . simp
  . rw[zH hne];simp[List.range'_concat]
 have hdom:∀ i,i<cs.length+RL.length->dom (zhW 0 cs++RL) i=true:=by
  intro i hi;have:i∈(zhW 0 cs++RL).map Prod.fst:=by rw[hfst];exact List.mem_range.2 hi
  obtain⟨p,hp,rfl⟩:=List.mem_map.1 this;exact List.any_eq_true.2 ⟨p,hp,beq_true.2 rfl⟩
 let π:Nat->Nat:=fun i=>(q.map Prod.fst++zbo x).getD i 0
 have hπ0:∀ i (hi:i<q.length),π i=q[i].1:=by
  intro i hi;show (q.map Prod.fst++zbo x).getD i 0=_;rw[getD_lt (by simp;omega),List.getElem_append_left (by simpa using hi),List.getElem_map]
 have hobj:∀ p∈zhW 0 cs++RL,hs.H.get (π p.1)=some p.2/\(∀ σ,p.2.ren σ=p.2)/\p.2.fz=false/\(∀ A,p.2.in A=true)/\π p.1<hs.n:=by
  intro p hp;rcases List.mem_append.1 hp with hp|hp
  . obtain⟨j,c,rfl,hj⟩:=zqQ hp;rw[<- hq,List.getElem?_map]at hj;have hj2:j<q.length:=Nat.lt_of_not_le fun h=>by rw[List.getElem?_eq_none h]at hj;cases hj
    rw[List.getElem?_eq_getElem hj2]at hj;cases hj;obtain⟨a1,a2,a3⟩:=hc q[j] (List.getElem_mem hj2);have e:π (0+j)=q[j].1:=by rw[Nat.zero_add];exact hπ0 j hj2
    refine⟨by rw[e];exact a1,fun σ=>?_,rfl,fun A=>?_,by rw[e];exact a2⟩
    . show Obj.arr _ _ [q[j].2.map (V.ren2 σ)] _ _ _=_;rw[map_id' fun v hv=>V.ren2_pure (List.all_eq_true.1 a3 v hv)];rfl
    . show (([q[j].2]:List (List V)).all fun e=>e.all (V.in2 A))=true;simp only[List.all_cons,List.all_nil,Bool.and_true];exact List.all_eq_true.2 fun v hv=>V.in2_pure2 (List.all_eq_true.1 a3 v hv)
  . rcases hx with⟨_,rfl,_,_⟩|⟨es,i,rfl,hne,_,rfl,h5,h6,h7⟩
    . cases hp
    . rw[zH hne]at hp;obtain rfl:=List.mem_singleton.1 hp
      have e:π cs.length=i:=by
       show (q.map Prod.fst++zbo (oV i es)).getD cs.length 0=i;rw[zbs hne,getD_lt (by simp[hql]),List.getElem_append_right (by simp[hql])];simp
      exact⟨by show hs.H.get (π cs.length)=_;rw[e];exact h6,fun σ=>zgR h5,rfl,fun A=>z8z h5,by show π cs.length<_;rw[e];exact h7⟩
 have hargs:(X0::rdC g (zkF 0 cs.length)).map (V.ren π)=x::rdC g (q.map fun p=>V.ptr p.1 0 0):=by
  have hp:(zkF 0 cs.length).map (V.ren1 π)=q.map fun p=>V.ptr p.1 0 0:=by
   rw[zh7,List.map_map];refine List.ext_getElem (by simp[hql]) fun i h1 h2=>?_
   simp only[List.getElem_map,List.getElem_range',Function.comp];have hi:i<q.length:=by simpa using h2
   show V.ptr (π (0+1*i)) 0 0=V.ptr q[i].1 0 0;rw[show 0+1*i=i by omega,hπ0 i hi]
  have hp3:(zkF 0 cs.length).map (V.ren π)=q.map fun p=>V.ptr p.1 0 0:=by
   rw[<- hp,zh7,List.map_map,List.map_map];rfl
  rw[List.map_cons]
  congr 1
  . rcases hx with⟨rfl,_,h3,_⟩|⟨es,i,rfl,hne,rfl,_,_,_,_⟩
    . exact V.ren_none (V.in3_pure h3)
    . rw[zbs hne,zbs hne];show V.own (π cs.length) _ _ _ _=_
      have e:π cs.length=i:=by
       show (q.map Prod.fst++zbo (oV i es)).getD cs.length 0=i;rw[zbs hne,getD_lt (by simp[hql]),List.getElem_append_right (by simp[hql])];simp
      rw[e]
  . cases g with
    |none=>exact hp3
    | some g =>
      show [V.func g ((zkF 0 cs.length).map (V.ren1 π))]=_;rw[hp];rfl
 have hin0:∀ v∈X0::rdC g (zkF 0 cs.length),v.in3 (dom (zhW 0 cs++RL))=true:=by
  intro v hv
  have hptr:∀ u∈zkF 0 cs.length,∃ j,u=.ptr j 0 0/\dom (zhW 0 cs++RL) j=true:=by
   intro u hu;rw[zh7]at hu;obtain⟨j,hj,rfl⟩:=List.mem_map.1 hu;have:=List.mem_range'_1.1 hj;exact⟨j,rfl,hdom j (by omega)⟩
  rcases List.mem_cons.1 hv with rfl|hv
  . rcases hx with⟨rfl,_,h3,_⟩|⟨es,i,rfl,hne,rfl,rfl,_,_,_⟩
    . exact V.in3_pure h3
    . rw[zbs hne];exact hdom cs.length (by rw[zH hne];simp)
  . cases g with
    |none=>obtain⟨j,rfl,hj⟩:=hptr v hv;exact hj
    | some g =>
      obtain rfl:=List.mem_singleton.1 hv;show ((zkF 0 cs.length).all (V.in1 _))=true;exact List.all_eq_true.2 fun u hu=>by obtain⟨j,rfl,hj⟩:=hptr u hu;exact hj
 have key:=zeW (k:=cs.length+RL.length) (k':=cs.length+RL.length) (OL:=zhW 0 cs++RL) (OL':=zhW 0 cs++RL) (v0:=r) (vs0:=X0::rdC g (zkF 0 cs.length)) hf hb he (zgy hρ hcon hP hN h) hfst hfst (Nat.le_refl _)
  (fun p hp=>(hobj p hp).2.2.2.1 _) (fun p hp=>⟨(hobj p hp).2.2.2.1 _,(hobj p hp).2.2.1⟩) (V.in3_pure hr) hin0 (hs:=hs) (π:=π)
  (fun i j hi hj e=>zl6 hnd (by omega) (by omega) e) (fun p hp=>by rw[(hobj p hp).2.1];exact(hobj p hp).1) (fun i hi=>absurd hi (by omega))
  (fun i hi=>by
    have:i∈(zhW 0 cs++RL).map Prod.fst:=by rw[hfst];exact List.mem_range.2 hi
    obtain⟨p,hp,rfl⟩:=List.mem_map.1 this
    exact(hobj p hp).2.2.2.2)
 rw[V.ren_none (V.in3_pure hr),hargs]at key;replace key:CallOk ρ E.P f (x::rdC g (q.map fun p=>V.ptr p.1 0 0)) hs r _:=key
 have hsame:∀ id,(zhO hs (cs.length+RL.length) (cs.length+RL.length) π (zhW 0 cs++RL)).H.get id=hs.H.get id:=by
  intro id;refine zjJ (fun p hp=>?_) id;obtain⟨p0,hp0,rfl⟩:=List.mem_map.1 hp;have hlt:p0.1<cs.length+RL.length:=List.mem_range.1 (by rw[<- hfst];exact List.mem_map.2 ⟨p0,hp0,rfl⟩);show hs.H.get (news hs.n _ π p0.1)=some (p0.2.ren _);rw[(hobj p0 hp0).2.1,show news hs.n (cs.length+RL.length) π p0.1=π p0.1 from if_pos hlt];exact(hobj p0 hp0).1
 exact CallOk.quiet key hr (fun id o ho=>by rw[hsame];exact ho) (fun id _ hn=>by rw[hsame];exact hn)
end
section
variable {ρ:Nat->Value}{P:Program}{f:Nat}{sz:Nat}{g:Option Nat}{F:V->List (List V)->Option V}
theorem Valid.rd (hf:zdR P f) (h:∀ X cs r,F X cs=some r->r.pure=true->∀ x X0 RL,RdX sz cs.length X X0 RL ->
 ∀ (hs:HS) (q:List (Nat×List V)),q.map Prod.snd=cs->(∀ p∈q,hs.H.get p.1=some (box p.2)/\p.1<hs.n/\p.2.all V.pure2=true)->nodupB (q.map Prod.fst++zbo x)=true ->
   ((X0=x/\RL=[]/\x.pure=true/\zbo x=[])\/∃ es i,x=oV i es/\es≠[]/\X0=oV cs.length es/\RL=oH cs.length sz es/\(es.all fun e=>e.all V.pure2)=true/\hs.H.get i=some (oO sz es)/\i<hs.n) ->
   CallOk ρ P f (x::rdC g (q.map fun p=>V.ptr p.1 0 0)) hs r hs):Valid ρ P f (rdS sz g F) where
 fn:=hf
 ok := by
  intro vs hs v hs' hq;unfold rdS at hq;split at hq
  . rename_i x cl;simp only[za,zk]at hq;obtain⟨l,hl,q,hq1,hnd,X,hX,r,hr,hp,hq⟩:=hq;cases hq;have e1:=zo7 hl;subst e1;obtain⟨rfl,hc⟩:=zlW hq1;have hlen:(q.map Prod.snd).length=q.length:=by simp
    unfold zhw at hX;split at hX
    . cases hX;exact h _ _ _ hr hp .snil .snil [] (.inr ⟨[],rfl,rfl,rfl,rfl⟩) hs q rfl hc hnd (.inl ⟨rfl,rfl,rfl,rfl⟩)
    . rename_i i g o n c;simp only[za]at hX;obtain⟨es,hes,hX⟩:=hX;cases hX;rcases zdY hes with⟨h1,_⟩|⟨id,h1,h2,h3,h4,h5⟩
      . cases h1
      . rw[h1]at hnd ⊢;exact h _ _ _ hr hp (oV id es) (oV _ es) (oH _ sz es) (.inr ⟨es,rfl,rfl,rfl,h5⟩) hs q rfl hc hnd (.inr ⟨es,id,rfl,h2,rfl,rfl,h5,h3,h4⟩)
    . rename_i h1 h2;simp only[zk]at hX;obtain⟨hpx,hX⟩:=hX;cases hX
      have hri:zbo x=[]:=by
       unfold zbo;split
       . exact absurd rfl (h2 _ _ _ _ _)
       . rfl
      exact h _ _ _ hr hp x x [] (.inl ⟨rfl,rfl,hpx⟩) hs q rfl hc hnd (.inl ⟨rfl,rfl,hpx,hri⟩)
  . cases hq
 kept:=by
  intro vs hs q hq;unfold rdS at hq;split at hq
  . simp only[za,zk]at hq;obtain⟨_,_,_,_,_,_,_,_,_,_,hq⟩:=hq;cases hq;exact .refl _
  . cases hq
end
section
variable {sz:Nat}{g:Option Nat}{F:V->List (List V)->Option V}{x:V}{cl:List V}{hs:HS}{Q:V×HS->Prop}
@[simp] theorem zAN:okT (rdS sz g F (x::cl) hs) Q=okT (zkm g cl) fun l=>okT (zcR hs l) fun q=>nodupB (q.map Prod.fst++zbo x)=true/\okT (zhw sz hs x) fun X=>okT (F X (q.map Prod.snd)) fun r=>r.pure=true/\Q (r,hs):=by
  show ok (rdS sz g F (x::cl) hs) Q=ok (zkm g cl) fun l=>ok (zcR hs l) fun q=>nodupB (q.map Prod.fst++zbo x)=true/\ok (zhw sz hs x) fun X=>ok (F X (q.map Prod.snd)) fun r=>r.pure=true/\Q (r,hs)
  simp only[rdS,zbS,zS,zl]
variable {α β γ σ τ:Type} [Enc α] [Enc β] [Cel σ] [Cel τ]
def zeb(F:α->σ->Option β)(x:V)(cs:List (List V)):Option V:=match cs with
 | [c]=>ob (Enc.dec x) fun a=>ob (Cel.dec c) fun s=>ob (F a s) fun r=>some (enc r)
 |_=>none
def zDP(F:α->σ->τ->Option β)(x:V)(cs:List (List V)):Option V:=match cs with
 | [c,d]=>ob (Enc.dec x) fun a=>ob (Cel.dec c) fun s=>ob (Cel.dec d) fun t=>ob (F a s t) fun r=>some (enc r)
 |_=>none
@[simp] theorem zAP {F:α->σ->Option β} {x:V} {c:List V}:zeb F x [c]=ob (Enc.dec x) fun a=>ob (Cel.dec c) fun s=>ob (F a s) fun r=>some (enc r):=(rfl)
@[simp] theorem zAO {F:α->σ->τ->Option β} {x:V} {c d:List V}:zDP F x [c,d]=ob (Enc.dec x) fun a=>ob (Cel.dec c) fun s=>ob (Cel.dec d) fun t=>ob (F a s t) fun r=>some (enc r):=(rfl)
theorem zd3{F:α->σ->Option β}{x:V}{cs:List (List V)}{r:V}(h:zeb F x cs=some r):∃ a s b,x=enc a/\cs=[Cel.cells s]/\F a s=some b/\r=enc b:=by
 unfold zeb at h;split at h
 . simp only[za]at h;obtain⟨a,ha,s,hs,b,hb,h⟩:=h;cases h;exact⟨a,s,b,Enc.enc_dec _ _ ha,by rw[Cel.enc_dec _ _ hs],hb,rfl⟩
 . cases h
end
section
variable {π σ:Nat->Nat}{A:Nat->Bool}
end
def rdE(M:List V->HS->Option EmbD):Spec:=fun vs hs=>ob (M vs hs) fun D=>gd D.v0.pure (some (D.v0,hs))
theorem Valid.rdE{ρ:Nat->Value}{P:Program}{f:Nat}{M:List V->HS->Option EmbD}(hf:zdR P f)(h:∀ vs hs D,M vs hs=some D->D.v0.pure=true->CallOk ρ P f vs hs D.v0 hs):Valid ρ P f (rdE M) where
 fn:=hf
 ok:=by
  intro vs hs v hs' hq;simp only[J.rdE,za,zk]at hq;obtain⟨D,hD,hp,hq⟩:=hq;cases hq;exact h _ _ _ hD hp
 kept:=by
  intro vs hs q hq;simp only[J.rdE,za,zk]at hq;obtain⟨D,hD,hp,hq⟩:=hq;cases hq;exact .refl _
@[simp] theorem zAQ {M:List V->HS->Option EmbD} {vs:List V} {hs:HS} {Q:V×HS->Prop}:okT (J.rdE M vs hs) Q=okT (M vs hs) fun D=>D.v0.pure=true/\Q (D.v0,hs):=by
  show ok (J.rdE M vs hs) Q=ok (M vs hs) fun D=>D.v0.pure=true/\Q (D.v0,hs)
  simp only[J.rdE,zS,zbS,zl]
section
variable {α β γ:Type} [Enc α] [Enc β] [Cel γ]
def rrV(w:Nat)(g:Nat)(a r:V)(id:Nat):List V:=match w with
 | 0=>[a,r]
 | 1=>[r,a]
 | 2=>[a,.ptr id 0 0]
 |_=>[a,.func g [.ptr id 0 0]]
def rrD(sz w g:Nat)(a:V)(id ro:Nat)(es:List (List V))(r:V):EmbD where
 k:=if w<2 then 1 else 2
 k':=if w<2 then 1 else 2
 π:=fun i=>if w<2 then ro else if i=0 then id else ro
 OL:=if w<2 then [(0,oO sz es)]else [(0,box [oV 1 es]),(1,oO sz es)]
 OL':=if w<2 then [(0,oO sz es)]else [(0,box [oV 1 es]),(1,oO sz es)]
 vs0:=rrV w g a (oV 0 es) 0
 v0:=r
def rrM(sz w g:Nat)(F:α->List γ->Option β)(vs:List V)(hs:HS):Option EmbD :=
 match w,vs with
 | 0,[a,.own ro x o n c]=>ob (Enc.dec a:Option α) fun t=>ob (rowOf sz hs (.own ro x o n c)) fun es=>ob (zI es:Option (List γ)) fun l=>ob (F t l) fun r=>some (rrD sz 0 g a 0 ro es (enc r))
 | 1,[.own ro x o n c,a]=>ob (Enc.dec a:Option α) fun t=>ob (rowOf sz hs (.own ro x o n c)) fun es=>ob (zI es:Option (List γ)) fun l=>ob (F t l) fun r=>some (rrD sz 1 g a 0 ro es (enc r))
 | 2,[a,.ptr id 0 0]=>ob (Enc.dec a:Option α) fun t=>ob (hs.H.get id) fun ob1=>ob (zkn ob1) fun v=>ob (rowOf sz hs v) fun es=>ob (zI es:Option (List γ)) fun l=>ob (F t l) fun r =>
  gd (et (Nat.blt id hs.n) (et (nt (Nat.beq (zC es) 0)) (nt (Nat.beq id (zcV v))))) (some (rrD sz 2 g a id (zcV v) es (enc r)))
 | 3,[a,.func g' [.ptr id 0 0]]=>ob (Enc.dec a:Option α) fun t=>ob (hs.H.get id) fun ob1=>ob (zkn ob1) fun v=>ob (rowOf sz hs v) fun es=>ob (zI es:Option (List γ)) fun l=>ob (F t l) fun r =>
  gd (et (Nat.beq g' g) (et (Nat.blt id hs.n) (et (nt (Nat.beq (zC es) 0)) (nt (Nat.beq id (zcV v)))))) (some (rrD sz 3 g a id (zcV v) es (enc r)))
 |_,_=>none
variable {sz g:Nat}{F:α->List γ->Option β}{a:V}{hs:HS}
@[simp] theorem zDO {ro x o n:Nat} {c:Option Nat}:rrM sz 0 g F [a,.own ro x o n c] hs=ob (Enc.dec a:Option α) fun t=>ob (rowOf sz hs (.own ro x o n c)) fun es=>ob (zI es:Option (List γ)) fun l=>ob (F t l) fun r=>some (rrD sz 0 g a 0 ro es (enc r)):=(rfl)
@[simp] theorem zDN {ro x o n:Nat} {c:Option Nat}:rrM sz 1 g F [.own ro x o n c,a] hs=ob (Enc.dec a:Option α) fun t=>ob (rowOf sz hs (.own ro x o n c)) fun es=>ob (zI es:Option (List γ)) fun l=>ob (F t l) fun r=>some (rrD sz 1 g a 0 ro es (enc r)):=(rfl)
@[simp] theorem zDM {id:Nat}:rrM sz 2 g F [a,.ptr id 0 0] hs=ob (Enc.dec a:Option α) fun t=>ob (hs.H.get id) fun ob1=>ob (zkn ob1) fun v=>ob (rowOf sz hs v) fun es=>ob (zI es:Option (List γ)) fun l=>ob (F t l) fun r =>
      gd (et (Nat.blt id hs.n) (et (nt (Nat.beq (zC es) 0)) (nt (Nat.beq id (zcV v))))) (some (rrD sz 2 g a id (zcV v) es (enc r))):=(rfl)
@[simp] theorem zDL {id g':Nat}:rrM sz 3 g F [a,.func g' [.ptr id 0 0]] hs=ob (Enc.dec a:Option α) fun t=>ob (hs.H.get id) fun ob1=>ob (zkn ob1) fun v=>ob (rowOf sz hs v) fun es=>ob (zI es:Option (List γ)) fun l=>ob (F t l) fun r =>
      gd (et (Nat.beq g' g) (et (Nat.blt id hs.n) (et (nt (Nat.beq (zC es) 0)) (nt (Nat.beq id (zcV v)))))) (some (rrD sz 3 g a id (zcV v) es (enc r))):=(rfl)
@[simp] theorem zAL {w id ro:Nat} {es:List (List V)} {r:V}:(rrD sz w g a id ro es r).v0=r:=(rfl)
end
end Go.J
/- Functions of two values and a row that they append to;they hand back the row and one more value. -/
namespace Go.J
open Enc (enc)
def rwK(fst:Bool)(v r:V):V:=match fst with
 |true=>.tuple [v,r]
 |false=>.tuple [r,v]
@[simp] theorem z4v {v r:V}:rwK true v r=.tuple [v,r]:=(rfl)
@[simp] theorem z0D {v r:V}:rwK false v r=.tuple [r,v]:=(rfl)
def rwS(sz:Nat)(fst:Bool)(F:V->V->List (List V)->Option (List (List V)×V)):Spec:=fun vs hs=>match vs with
 | [a,b,v]=>gd (et a.pure (et b.pure (zaJ hs hs.n))) (ob (rowOf sz hs v) fun es=>ob (F a b es) fun r =>
  gd (et (r.1.all fun e=>e.all V.pure2) (et (r.2.in2 fun _=>false) (Nat.ble (zC es) (zC r.1)))) (some (rwK fst (zby sz v es r.1 hs).1 r.2,(zby sz v es r.1 hs).2)))
 |_=>none
def GivesP(k:Nat)(v0:V)(OL:List (Nat×Obj))(v:V)(hs:HS):Prop:=∃ a b q,v=.tuple [a,b]/\zaG a hs=some q/\GivesL k v0 OL (.tuple [zU q.1,b]) q.2
section
variable {ρ:Nat->Value}{E:Env}{f:FuncId}{fn:Func}{sc:SC}{T:PT V}{es es':List (List V)}{a b r:V}{sz:Nat}{fst:Bool}
end
section
variable {ρ:Nat->Value}{P:Program}{f:Nat}{sz:Nat}{fst:Bool}{F:V->V->List (List V)->Option (List (List V)×V)}
theorem Valid.rw (hf:zdR P f) (h:∀ a b es r,a.pure=true->b.pure=true->(es.all fun e=>e.all V.pure2)=true->F a b es=some r->(r.1.all fun e=>e.all V.pure2)=true->(r.2.in2 fun _=>false)=true->es.length<=r.1.length ->
 ∀ (hs:HS) (v:V),rowOf sz hs v=some es->hs.H.get hs.n=none->CallOk ρ P f [a,b,v] hs (rwK fst (zby sz v es r.1 hs).1 r.2) (zby sz v es r.1 hs).2):Valid ρ P f (rwS sz fst F) where
 fn:=hf
 ok := by
  intro vs hs v hs' hq;unfold rwS at hq;split at hq
  . rename_i a b v0;simp only[zk,za,et_true]at hq;obtain⟨⟨ha,hb,hvac⟩,es,hes,r,hr,⟨h1,h2,h3⟩,hq⟩:=hq;cases hq;rw[vacant_eq]at hvac;rw[ble_true,zx,zx]at h3
    have h0:(es.all fun e=>e.all V.pure2)=true:=by
     rcases zdY hes with⟨_,rfl⟩|⟨_,_,_,_,_,h⟩
     . rfl
     . exact h
    exact h a b es r ha hb h0 hr h1 h2 h3 hs v0 hes hvac
  . cases hq
 kept := by
  intro vs hs q hq;unfold rwS at hq;split at hq
  . rename_i a b v0;simp only[zk,za,et_true]at hq;obtain⟨⟨_,_,hvac⟩,es,hes,r,hr,_,hq⟩:=hq;cases hq;rw[vacant_eq]at hvac
    unfold zby
    cases es with
    | nil =>
      show Kept hs (bi (Nat.beq (zC r.1) 0) hs _);rw[zX];split
      . exact .refl _
      . refine⟨fun k hk=>List.mem_cons_of_mem _ hk,fun k o ho hn=>?_,Nat.le_succ _,fun k hk=>?_⟩
        . show (hs.H.set hs.n _).get k=_;rw[PT.set_get];split
          . rename_i e;subst e;rw[hvac]at ho;cases ho
          . exact ho
        . show (hs.H.set hs.n _).get k≠none;rw[PT.set_get];split
          . simp
          . exact hk
    |cons a l=>exact za0 ..
  . cases hq
end
section
variable {sz:Nat}{fst:Bool}{F:V->V->List (List V)->Option (List (List V)×V)}{a b v:V}{hs:HS}{Q:V×HS->Prop}
@[simp] theorem zAK:okT (rwS sz fst F [a,b,v] hs) Q=((a.pure=true/\b.pure=true/\hs.H.get hs.n=none)/\okT (rowOf sz hs v) fun es=>okT (F a b es) fun r =>
 ((r.1.all fun e=>e.all V.pure2)=true/\(r.2.in2 fun _=>false)=true/\es.length<=r.1.length)/\Q (rwK fst (zby sz v es r.1 hs).1 r.2,(zby sz v es r.1 hs).2)):=by
  show ok (rwS sz fst F [a,b,v] hs) Q=((a.pure=true/\b.pure=true/\hs.H.get hs.n=none)/\ok (rowOf sz hs v) fun es=>ok (F a b es) fun r =>
   ((r.1.all fun e=>e.all V.pure2)=true/\(r.2.in2 fun _=>false)=true/\es.length<=r.1.length)/\Q (rwK fst (zby sz v es r.1 hs).1 r.2,(zby sz v es r.1 hs).2))
  simp only[rwS,zbS,zS,zl,et_true,vacant_eq,ble_true,zx]
variable {α β γ δ:Type} [Enc α] [Enc β] [Cel γ] [Enc δ]
def rwF(F:α->β->List γ->Option (List γ×δ))(a b:V)(es:List (List V)):Option (List (List V)×V) :=
 ob (Enc.dec a) fun a=>ob (Enc.dec b) fun b=>ob (zI es) fun L=>ob (F a b L) fun r=>some (r.1.map Cel.cells,enc r.2)
@[simp] theorem zDK {F:α->β->List γ->Option (List γ×δ)} {es:List (List V)}:rwF F a b es=ob (Enc.dec a) fun a=>ob (Enc.dec b) fun b=>ob (zI es) fun L=>ob (F a b L) fun r=>some (r.1.map Cel.cells,enc r.2):=(rfl)
end
theorem GivesP.keep{k:Nat}{v0 a b:V}{OL:List (Nat×Obj)}{hs:HS}(hi:nodupB (OL.map fun p=>p.1)=true)(hk:(List.range k).all (fun i=>dom OL i)=true)(hs2:ok (za7 hs a) fun a'=>V.tuple [zU a',b]=v0/\v0.in3 (dom OL)=true)
 (hH:∀ p∈OL,p.2.in (dom OL)=true/\(a.cells.any (ownB p.1))=false/\hs.H.get p.1=some p.2):GivesP k v0 OL (.tuple [a,b]) hs:=by
 obtain⟨a',ha,rfl,hv⟩:=hs2;refine⟨a,b,(a',zay hs a.cells),rfl,by simp only[zaG,ha];rfl,GivesL.keepX hi hk hv fun p hp=>?_⟩;obtain⟨h1,h2,h3⟩:=hH p hp;exact⟨h1,by rw[zfP h2];exact h3⟩
section
variable {ρ:Nat->Value}{E:Env}{f:FuncId}{fn:Func}{sc:SC}{vs:List V}{T:PT V}{r:V}{c c':List V}
theorem zvZ(hρ:Good ρ)(hcon:ConsOk ρ E)(hP:E.P.follows .mixedOrders=true)(hN:zcZ E.P)(hf:E.P.funcs[f]?=some fn)(hb:fn.body.bind zo=some sc)(he:zba fn.ntmps (.ptr 0 0 0::vs) 0 .leaf=some T)(hp:zt vs=true)
 (hc:c.all V.pure2=true) (hc':c'.all V.pure2=true) (hr:r.in3 (fun _=>false)=true)
 (h:Wp ρ E 1 fn.ntmps sc T { H:=mkP [(0,box c)],n:=1,log:=[] } (Leaves E.P fn (GivesF 1 r [(0,box c')]))) {hs:HS} {id:Nat} (hid:id<hs.n) (hg:hs.H.get id=some (box c)):CallOk ρ E.P f (.ptr id 0 0::vs) hs r (hs.wr id (box c')):=by
 have hren:∀ (π:Nat->Nat) (c:List V),c.all V.pure2=true->(box c).ren π=box c:=by
  intro π c hc;show Obj.arr _ _ [c.map (V.ren2 π)] _ _ _=_;rw[map_id' fun v hv=>V.ren2_pure (List.all_eq_true.1 hc v hv)];rfl
 have hbin:∀ (A:Nat->Bool) (c:List V),c.all V.pure2=true->(box c).in A=true:=by
  intro A c hc;show ([c].all fun e=>e.all fun v=>v.in2 A)=true;simp only[List.all_cons,List.all_nil,Bool.and_true];exact List.all_eq_true.2 fun v hv=>V.in2_pure2 (List.all_eq_true.1 hc v hv)
 have hps:=zb7 hp
 have key:=zou (k:=1) (k':=1) (OL:=[(0,box c)]) (OL':=[(0,box c')]) (v0:=r) (vs0:=.ptr 0 0 0::vs) hf hb he (zgy hρ hcon hP hN h) (fun _ _ h=>.inr h) rfl rfl (Nat.le_refl _)
  (fun p hp=>by simp only[List.mem_singleton]at hp;subst hp;exact hbin _ _ hc)
  (fun p hp=>by simp only[List.mem_singleton]at hp;subst hp;exact⟨hbin _ _ hc',rfl⟩)
  (V.in3_mono (fun _ h=>by cases h) hr)
  (fun v hv=>by
    rcases List.mem_cons.1 hv with rfl|hv
    . rfl
    . exact V.in3_pure (hps v hv))
  (hs:=hs) (π:=fun _=>id) (fun i j hi hj _=>by omega) (fun p hp=>by simp only[List.mem_singleton]at hp;subst hp;rw[hren _ _ hc];exact hg) (fun i hi=>absurd hi (by omega)) (fun _ _=>hid)
 rw[V.ren_none hr]at key
 have e1:(V.ptr 0 0 0::vs).map (V.ren fun _=>id)=.ptr id 0 0::vs:=by
  rw[List.map_cons,map_id' fun v hv=>V.ren_none (V.in3_pure (hps v hv))];rfl
 rw[e1]at key
 have e2:zhO hs 1 1 (fun _=>id) [(0,box c')]=hs.wr id (box c'):=by
  show ({ H:=(hs.H.set (news hs.n 1 (fun _=>id) 0) ((box c').ren _)),n:=hs.n+0,log:=[news hs.n 1 (fun _=>id) 0]++hs.log }:HS)=_;rw[hren _ _ hc'];rfl
 rw[e2]at key;exact key
end
end Go.J
