import Derived.Test.YtpcmebclpindjaaGreatJK
import Derived.Test.YtpcmebclpindjaaGreatJQuiet
set_option linter.all false
noncomputable section
/- Functions that read variables of their caller: closures,and functions that are handed them,perhaps with a row. -/
namespace Go.J
open Enc (enc)
def zjU:Nat->List (List V)->List (Nat×Obj)
 |_,[]=>[]
 |i,c::l=>(i,box c)::zjU (i+1) l
def znq:Nat->Nat->List V
 |_,0=>[]
 |i,n+1=>.ptr i 0 0::znq (i+1) n
@[simp] theorem zGu {i:Nat}:zjU i []=[]:=(rfl)
@[simp] theorem zl6 {i:Nat} {c:List V} {l:List (List V)}:zjU i (c::l)=(i,box c)::zjU (i+1) l:=(rfl)
@[simp] theorem zAB {i:Nat}:znq i 0=[]:=(rfl)
@[simp] theorem zqB {i n:Nat}:znq i (n+1)=.ptr i 0 0::znq (i+1) n:=(rfl)
def rdC(g:Option Nat)(l:List V):List V:=match g with
 |none=>l
 |some g=>[.func g l]
@[simp] theorem zEH {l:List V}:rdC none l=l:=(rfl)
@[simp] theorem zEG {g:Nat} {l:List V}:rdC (some g) l=[.func g l]:=(rfl)
def zmH (g:Option Nat) (l:List V):Option (List V):=match g with
 |none=>some l
 | some g=>(match l with
   | [.func g' l]=>gd (Nat.beq g' g) (some l)
   |_=>none)
@[simp] theorem z9k {l:List V}:zmH none l=some l:=(rfl)
@[simp] theorem z9j {g:Nat} {l:List V}:zmH (some g) [.func g l]=some l:=by
  show gd (Nat.beq g g) (some l)=_;rw[beq_true.2 rfl];rfl
theorem zvj{g:Option Nat}{l m:List V}(h:zmH g l=some m):l=rdC g m:=by
 cases g with
 |none=>cases h;rfl
 | some g =>
   unfold zmH at h;dsimp only at h;split at h
   . simp only[zl,beq_true]at h;obtain⟨rfl,h⟩:=h;cases h;rfl
   . cases h
def zDg(o:Obj):Option (List V):=match o with
 |.arr n 0 [c] true false false=>gd (et (Nat.beq n (zC c)) (c.all V.pure2)) (some c)
 |_=>none
theorem zxI{o:Obj}{c:List V}(h:zDg o=some c):o=box c/\c.all V.pure2=true:=by
 unfold zDg at h;split at h
 . simp only[zl,et_true,beq_true]at h;obtain⟨⟨rfl,h1⟩,h⟩:=h;cases h;exact⟨rfl,h1⟩
 . cases h
@[simp] theorem zNr {n:Nat} {c:List V}:zDg (.arr n 0 [c] true false false)=gd (et (Nat.beq n (zC c)) (c.all V.pure2)) (some c):=(rfl)
def zd9(hs:HS):List V->Option (List (Nat×List V))
 | []=>some []
 |.ptr id 0 0::l=>ob (hs.H.get id) fun o=>ob (zDg o) fun c=>gd (Nat.blt id hs.n) (ob (zd9 hs l) fun r=>some ((id,c)::r))
 |_=>none
@[simp] theorem z9i {hs:HS}:zd9 hs []=some []:=by rw[zd9]
@[simp] theorem z9h {hs:HS} {id:Nat} {l:List V}:zd9 hs (.ptr id 0 0::l)=ob (hs.H.get id) fun o=>ob (zDg o) fun c=>gd (Nat.blt id hs.n) (ob (zd9 hs l) fun r=>some ((id,c)::r)):=by rw[zd9]
theorem zpw{hs:HS}:∀ {l:List V} {q:List (Nat×List V)},zd9 hs l=some q->l=q.map (fun p=>V.ptr p.1 0 0)/\∀ p∈q,hs.H.get p.1=some (box p.2)/\p.1<hs.n/\p.2.all V.pure2=true:=by
 intro l
 induction l with
 |nil=>intro q h;rw[zd9]at h;cases h;exact⟨rfl,fun p hp=>by cases hp⟩
 | cons v l ih =>
   intro q h;unfold zd9 at h
   grind [id,zb,zl,blt_true,zxI]
def zbB(v:V):List Nat:=match v with
 |.own id _ _ _ _=>[id]
 |_=>[]
@[simp] theorem z7B {id g o n:Nat} {c:Option Nat}:zbB (.own id g o n c)=[id]:=(rfl)
@[simp] theorem z4k:zbB .snil=[]:=(rfl)
@[simp] theorem zAq {es:List (List V)} {b:Bool}:zbB (.sl es b)=[]:=(rfl)
@[simp] theorem z7D {l:List V}:zbB (.agg l)=[]:=(rfl)
@[simp] theorem z7C {k:IntKind} {n:Int}:zbB (.int k n)=[]:=(rfl)
def zjf(sz:Nat)(hs:HS)(v:V):Option V:=match v with
 |.snil=>some (.sl [] false)
 |.own i g o n c=>ob (rowOf sz hs (.own i g o n c)) fun es=>some (.sl es false)
 |v=>gd v.pure (some v)
@[simp] theorem z7n {sz:Nat} {hs:HS}:zjf sz hs .snil=some (.sl [] false):=(rfl)
@[simp] theorem z9E {sz:Nat} {hs:HS} {i g o n:Nat} {c:Option Nat}:zjf sz hs (.own i g o n c)=ob (rowOf sz hs (.own i g o n c)) fun es=>some (.sl es false):=(rfl)
@[simp] theorem zEc {sz:Nat} {hs:HS} {es:List (List V)} {b:Bool}:zjf sz hs (.sl es b)=gd (V.sl es b).pure (some (.sl es b)):=(rfl)
@[simp] theorem z9G {sz:Nat} {hs:HS} {l:List V}:zjf sz hs (.agg l)=gd (V.agg l).pure (some (.agg l)):=(rfl)
@[simp] theorem z9F {sz:Nat} {hs:HS} {k:IntKind} {n:Int}:zjf sz hs (.int k n)=gd (V.int k n).pure (some (.int k n)):=(rfl)
def RdX(sz n:Nat)(X X0:V)(RL:List (Nat×Obj)):Prop:=(X0=X/\RL=[]/\X.pure=true)\/∃ es,X=.sl es false/\X0=oV n es/\RL=oH n sz es/\(es.all fun e=>e.all V.pure2)=true
def rdS(sz:Nat)(g:Option Nat)(F:V->List (List V)->Option V):Spec:=fun vs hs=>match vs with
 |x::cl=>ob (zmH g cl) fun l=>ob (zd9 hs l) fun q=>gd (nodupB (q.map Prod.fst++zbB x)) (ob (zjf sz hs x) fun X=>ob (F X (q.map Prod.snd)) fun r=>gd r.pure (some (r,hs)))
 |_=>none
theorem zme{H:PT Obj}:∀ {l:List (Nat×Obj)},(∀ p∈l,H.get p.1=some p.2)->∀ id,(zdM H l).get id=H.get id:=by
 intro l
 induction l with
 |nil=>intro _ id;rfl
 | cons p l ih =>
   intro h id;show ((zdM H l).set p.1 p.2).get id=_
   simp_all
theorem zxR(l:List (List V)):∀ i,(zjU i l).map Prod.fst=List.range' i l.length:=by
 induction l with
 |nil=>intro i;rfl
 |cons c l ih=>intro i;rw[zl6,List.map_cons,ih (i+1)];rfl
theorem zxQ{l:List (List V)}:∀ {i:Nat} {p:Nat×Obj},p∈zjU i l->∃ j c,p=(i+j,box c)/\l[j]?=some c:=by
 induction l with
 |nil=>intro i p h;cases h
 | cons c l ih =>
   intro i p h;rw[zl6]at h;rcases List.mem_cons.1 h with rfl|h
   . exact⟨0,c,rfl,rfl⟩
   . obtain⟨j,c',rfl,h2⟩:=ih h;exact⟨j+1,c',by rw[show i+1+j=i+(j+1) by omega],by simpa using h2⟩
theorem zjt(n:Nat):∀ i,znq i n=(List.range' i n).map fun j=>V.ptr j 0 0:=by
 induction n with
 |zero=>intro i;rfl
 |succ n ih=>intro i;rw[zqB,ih];rfl
theorem getD_lt{l:List Nat}{i:Nat}(h:i<l.length):l.getD i 0=l[i]:=by simp[List.getD,h]
theorem zoU{l:List Nat}(h:nodupB l=true){i j:Nat}(hi:i<l.length)(hj:j<l.length)(e:l.getD i 0=l.getD j 0):i=j:=by
 have:=zkB h;rw[getD_lt hi,getD_lt hj]at e;exact(List.getElem_inj this).1 e
section
variable {ρ:Nat->Value}{E:Env}{f:FuncId}{fn:Func}{sc:SC}{T:PT V}{g:Option Nat}{X X0 r:V}{RL:List (Nat×Obj)}{cs:List (List V)}{sz:Nat}
theorem zqy (hρ:Good ρ) (hcon:ConsOk ρ E) (hP:E.P.follows .mixedOrders=true) (hN:zeo E.P) (hf:E.P.funcs[f]?=some fn) (hb:fn.body.bind zh=some sc)
 (he:zb3 fn.ntmps (X0::rdC g (znq 0 cs.length)) 0 .leaf=some T) (hr:r.pure=true)
 (h:Wp ρ E (cs.length+RL.length) fn.ntmps sc T { H:=mkP (zjU 0 cs++RL),n:=cs.length+RL.length,log:=[] } (Leaves E.P fn (GivesL (cs.length+RL.length) r (zjU 0 cs++RL))))
 {x:V} {hs:HS} {q:List (Nat×List V)} (hq:q.map Prod.snd=cs) (hc:∀ p∈q,hs.H.get p.1=some (box p.2)/\p.1<hs.n/\p.2.all V.pure2=true) (hnd:nodupB (q.map Prod.fst++zbB x)=true)
 (hx:(X0=x/\RL=[]/\x.pure=true/\zbB x=[])\/∃ es i,x=oV i es/\es≠[]/\X0=oV cs.length es/\RL=oH cs.length sz es/\(es.all fun e=>e.all V.pure2)=true/\hs.H.get i=some (oO sz es)/\i<hs.n) :
 CallOk ρ E.P f (x::rdC g (q.map fun p=>V.ptr p.1 0 0)) hs r hs:=by
 have hql:q.length=cs.length:=by rw[<- hq];simp
 have hk:(q.map Prod.fst++zbB x).length=cs.length+RL.length:=by
  rcases hx with⟨_,rfl,_,h4⟩|⟨es,i,rfl,hne,_,rfl,_⟩
  . rw[h4];simp[hql]
  . rw[zbX hne,zav hne];simp[hql]
 have hfst:(zjU 0 cs++RL).map Prod.fst=List.range (cs.length+RL.length):=by
  rw[List.map_append,zxR,List.range_eq_range'];rcases hx with⟨_,rfl,_,_⟩|⟨es,i,_,hne,_,rfl,_⟩
  . simp
  . rw[zav hne];simp[List.range'_concat]
 have hdom:∀ i,i<cs.length+RL.length->dom (zjU 0 cs++RL) i=true:=by
  intro i hi;have:i∈(zjU 0 cs++RL).map Prod.fst:=by rw[hfst];exact List.mem_range.2 hi
  obtain⟨p,hp,rfl⟩:=List.mem_map.1 this;exact List.any_eq_true.2 ⟨p,hp,beq_true.2 rfl⟩
 let π:Nat->Nat:=fun i=>(q.map Prod.fst++zbB x).getD i 0
 have hπ0:∀ i (hi:i<q.length),π i=q[i].1:=by
  intro i hi;show (q.map Prod.fst++zbB x).getD i 0=_;rw[getD_lt (by simp;omega),List.getElem_append_left (by simpa using hi),List.getElem_map]
 have hobj:∀ p∈zjU 0 cs++RL,hs.H.get (π p.1)=some p.2/\(∀ σ,p.2.ren σ=p.2)/\p.2.fz=false/\(∀ A,p.2.in A=true)/\π p.1<hs.n:=by
  intro p hp;rcases List.mem_append.1 hp with hp|hp
  . obtain⟨j,c,rfl,hj⟩:=zxQ hp;rw[<- hq,List.getElem?_map]at hj;have hj2:j<q.length:=Nat.lt_of_not_le fun h=>by rw[List.getElem?_eq_none h]at hj;cases hj
    rw[List.getElem?_eq_getElem hj2]at hj;cases hj;obtain⟨a1,a2,a3⟩:=hc q[j] (List.getElem_mem hj2);have e:π (0+j)=q[j].1:=by rw[Nat.zero_add];exact hπ0 j hj2
    refine⟨by rw[e];exact a1,fun σ=>?_,rfl,fun A=>?_,by rw[e];exact a2⟩
    . show Obj.arr _ _ [q[j].2.map (V.ren2 σ)] _ _ _=_;rw[map_id' fun v hv=>V.ren2_pure (List.all_eq_true.1 a3 v hv)];rfl
    . show (([q[j].2]:List (List V)).all fun e=>e.all (V.in2 A))=true;simp only[List.all_cons,List.all_nil,Bool.and_true];exact List.all_eq_true.2 fun v hv=>V.in2_pure2 (List.all_eq_true.1 a3 v hv)
  . rcases hx with⟨_,rfl,_,_⟩|⟨es,i,rfl,hne,_,rfl,h5,h6,h7⟩
    . cases hp
    . rw[zav hne]at hp;obtain rfl:=List.mem_singleton.1 hp
      have e:π cs.length=i:=by
       show (q.map Prod.fst++zbB (oV i es)).getD cs.length 0=i;rw[zbX hne,getD_lt (by simp[hql]),List.getElem_append_right (by simp[hql])];simp
      exact⟨by show hs.H.get (π cs.length)=_;rw[e];exact h6,fun σ=>zga h5,rfl,fun A=>zHT h5,by show π cs.length<_;rw[e];exact h7⟩
 have hargs:(X0::rdC g (znq 0 cs.length)).map (V.ren π)=x::rdC g (q.map fun p=>V.ptr p.1 0 0):=by
  have hp:(znq 0 cs.length).map (V.ren1 π)=q.map fun p=>V.ptr p.1 0 0:=by
   rw[zjt,List.map_map];refine List.ext_getElem (by simp[hql]) fun i h1 h2=>?_
   simp only[List.getElem_map,List.getElem_range',Function.comp];have hi:i<q.length:=by simpa using h2
   show V.ptr (π (0+1*i)) 0 0=V.ptr q[i].1 0 0;rw[show 0+1*i=i by omega,hπ0 i hi]
  have hp3:(znq 0 cs.length).map (V.ren π)=q.map fun p=>V.ptr p.1 0 0:=by
   rw[<- hp,zjt,List.map_map,List.map_map];rfl
  rw[List.map_cons]
  congr 1
  . rcases hx with⟨rfl,_,h3,_⟩|⟨es,i,rfl,hne,rfl,_,_,_,_⟩
    . exact V.ren_none (V.in3_pure h3)
    . rw[zbX hne,zbX hne];show V.own (π cs.length) _ _ _ _=_
      have e:π cs.length=i:=by
       show (q.map Prod.fst++zbB (oV i es)).getD cs.length 0=i;rw[zbX hne,getD_lt (by simp[hql]),List.getElem_append_right (by simp[hql])];simp
      rw[e]
  . cases g with
    |none=>exact hp3
    | some g =>
      show [V.func g ((znq 0 cs.length).map (V.ren1 π))]=_;rw[hp];rfl
 have hin0:∀ v∈X0::rdC g (znq 0 cs.length),v.in3 (dom (zjU 0 cs++RL))=true:=by
  intro v hv
  have hptr:∀ u∈znq 0 cs.length,∃ j,u=.ptr j 0 0/\dom (zjU 0 cs++RL) j=true:=by
   intro u hu;rw[zjt]at hu;obtain⟨j,hj,rfl⟩:=List.mem_map.1 hu;have:=List.mem_range'_1.1 hj;exact⟨j,rfl,hdom j (by omega)⟩
  rcases List.mem_cons.1 hv with rfl|hv
  . rcases hx with⟨rfl,_,h3,_⟩|⟨es,i,rfl,hne,rfl,rfl,_,_,_⟩
    . exact V.in3_pure h3
    . rw[zbX hne];exact hdom cs.length (by rw[zav hne];simp)
  . cases g with
    |none=>obtain⟨j,rfl,hj⟩:=hptr v hv;exact hj
    | some g =>
      obtain rfl:=List.mem_singleton.1 hv;show ((znq 0 cs.length).all (V.in1 _))=true;exact List.all_eq_true.2 fun u hu=>by obtain⟨j,rfl,hj⟩:=hptr u hu;exact hj
 have key:=zgh (k:=cs.length+RL.length) (k':=cs.length+RL.length) (OL:=zjU 0 cs++RL) (OL':=zjU 0 cs++RL) (v0:=r) (vs0:=X0::rdC g (znq 0 cs.length)) hf hb he (zhX hρ hcon hP hN h) hfst hfst (Nat.le_refl _)
  (fun p hp=>(hobj p hp).2.2.2.1 _) (fun p hp=>⟨(hobj p hp).2.2.2.1 _,(hobj p hp).2.2.1⟩) (V.in3_pure hr) hin0 (hs:=hs) (π:=π)
  (fun i j hi hj e=>zoU hnd (by omega) (by omega) e) (fun p hp=>by rw[(hobj p hp).2.1];exact(hobj p hp).1) (fun i hi=>absurd hi (by omega))
  (fun i hi=>by
    have:i∈(zjU 0 cs++RL).map Prod.fst:=by rw[hfst];exact List.mem_range.2 hi
    obtain⟨p,hp,rfl⟩:=List.mem_map.1 this
    exact(hobj p hp).2.2.2.2)
 rw[V.ren_none (V.in3_pure hr),hargs]at key;replace key:CallOk ρ E.P f (x::rdC g (q.map fun p=>V.ptr p.1 0 0)) hs r _:=key
 have hsame:∀ id,(zg1 hs (cs.length+RL.length) (cs.length+RL.length) π (zjU 0 cs++RL)).H.get id=hs.H.get id:=by
  intro id;refine zme (fun p hp=>?_) id;obtain⟨p0,hp0,rfl⟩:=List.mem_map.1 hp;have hlt:p0.1<cs.length+RL.length:=List.mem_range.1 (by rw[<- hfst];exact List.mem_map.2 ⟨p0,hp0,rfl⟩);show hs.H.get (news hs.n _ π p0.1)=some (p0.2.ren _);rw[(hobj p0 hp0).2.1,show news hs.n (cs.length+RL.length) π p0.1=π p0.1 from if_pos hlt];exact(hobj p0 hp0).1
 exact CallOk.quiet key hr (fun id o ho=>by rw[hsame];exact ho) (fun id _ hn=>by rw[hsame];exact hn)
end
section
variable {ρ:Nat->Value}{P:Program}{f:Nat}{sz:Nat}{g:Option Nat}{F:V->List (List V)->Option V}
theorem Valid.rd (hf:zeT P f) (h:∀ X cs r,F X cs=some r->r.pure=true->∀ x X0 RL,RdX sz cs.length X X0 RL ->
 ∀ (hs:HS) (q:List (Nat×List V)),q.map Prod.snd=cs->(∀ p∈q,hs.H.get p.1=some (box p.2)/\p.1<hs.n/\p.2.all V.pure2=true)->nodupB (q.map Prod.fst++zbB x)=true ->
   ((X0=x/\RL=[]/\x.pure=true/\zbB x=[])\/∃ es i,x=oV i es/\es≠[]/\X0=oV cs.length es/\RL=oH cs.length sz es/\(es.all fun e=>e.all V.pure2)=true/\hs.H.get i=some (oO sz es)/\i<hs.n) ->
   CallOk ρ P f (x::rdC g (q.map fun p=>V.ptr p.1 0 0)) hs r hs):Valid ρ P f (rdS sz g F) where
 fn:=hf
 ok := by
  intro vs hs v hs' hq;unfold rdS at hq;split at hq
  . rename_i x cl;simp only[zb,zl]at hq;obtain⟨l,hl,q,hq1,hnd,X,hX,r,hr,hp,hq⟩:=hq;cases hq;have e1:=zvj hl;subst e1;obtain⟨rfl,hc⟩:=zpw hq1;have hlen:(q.map Prod.snd).length=q.length:=by simp
    unfold zjf at hX;split at hX
    . cases hX;exact h _ _ _ hr hp .snil .snil [] (.inr ⟨[],rfl,rfl,rfl,rfl⟩) hs q rfl hc hnd (.inl ⟨rfl,rfl,rfl,rfl⟩)
    . rename_i i g o n c;simp only[zb]at hX;obtain⟨es,hes,hX⟩:=hX;cases hX;rcases zfe hes with⟨h1,_⟩|⟨id,h1,h2,h3,h4,h5⟩
      . cases h1
      . rw[h1]at hnd ⊢;exact h _ _ _ hr hp (oV id es) (oV _ es) (oH _ sz es) (.inr ⟨es,rfl,rfl,rfl,h5⟩) hs q rfl hc hnd (.inr ⟨es,id,rfl,h2,rfl,rfl,h5,h3,h4⟩)
    . rename_i h1 h2;simp only[zl]at hX;obtain⟨hpx,hX⟩:=hX;cases hX
      have hri:zbB x=[]:=by
       unfold zbB;split
       . exact absurd rfl (h2 _ _ _ _ _)
       . rfl
      exact h _ _ _ hr hp x x [] (.inl ⟨rfl,rfl,hpx⟩) hs q rfl hc hnd (.inl ⟨rfl,rfl,hpx,hri⟩)
  . cases hq
 kept:=by
  intro vs hs q hq;unfold rdS at hq;split at hq
  . simp only[zb,zl]at hq;obtain⟨_,_,_,_,_,_,_,_,_,_,hq⟩:=hq;cases hq;exact .refl _
  . cases hq
end
section
variable {sz:Nat}{g:Option Nat}{F:V->List (List V)->Option V}{x:V}{cl:List V}{hs:HS}{Q:V×HS->Prop}
@[simp] theorem zKx:okT (rdS sz g F (x::cl) hs) Q=okT (zmH g cl) fun l=>okT (zd9 hs l) fun q=>nodupB (q.map Prod.fst++zbB x)=true/\okT (zjf sz hs x) fun X=>okT (F X (q.map Prod.snd)) fun r=>r.pure=true/\Q (r,hs):=by
  show ok (rdS sz g F (x::cl) hs) Q=ok (zmH g cl) fun l=>ok (zd9 hs l) fun q=>nodupB (q.map Prod.fst++zbB x)=true/\ok (zjf sz hs x) fun X=>ok (F X (q.map Prod.snd)) fun r=>r.pure=true/\Q (r,hs)
  simp only[rdS,zct,zab,zm]
variable {α β γ σ τ:Type} [Enc α] [Enc β] [Cel σ] [Cel τ]
def zlG(F:α->σ->Option β)(x:V)(cs:List (List V)):Option V:=match cs with
 | [c]=>ob (Enc.dec x) fun a=>ob (Cel.dec c) fun s=>ob (F a s) fun r=>some (enc r)
 |_=>none
def zOg(F:α->σ->τ->Option β)(x:V)(cs:List (List V)):Option V:=match cs with
 | [c,d]=>ob (Enc.dec x) fun a=>ob (Cel.dec c) fun s=>ob (Cel.dec d) fun t=>ob (F a s t) fun r=>some (enc r)
 |_=>none
@[simp] theorem zKz {F:α->σ->Option β} {x:V} {c:List V}:zlG F x [c]=ob (Enc.dec x) fun a=>ob (Cel.dec c) fun s=>ob (F a s) fun r=>some (enc r):=(rfl)
@[simp] theorem zKy {F:α->σ->τ->Option β} {x:V} {c d:List V}:zOg F x [c,d]=ob (Enc.dec x) fun a=>ob (Cel.dec c) fun s=>ob (Cel.dec d) fun t=>ob (F a s t) fun r=>some (enc r):=(rfl)
theorem zjr{F:α->σ->Option β}{x:V}{cs:List (List V)}{r:V}(h:zlG F x cs=some r):∃ a s b,x=enc a/\cs=[Cel.cells s]/\F a s=some b/\r=enc b:=by
 unfold zlG at h;split at h
 . simp only[zb]at h;obtain⟨a,ha,s,hs,b,hb,h⟩:=h;cases h;exact⟨a,s,b,Enc.enc_dec _ _ ha,by rw[Cel.enc_dec _ _ hs],hb,rfl⟩
 . cases h
end
section
variable {π σ:Nat->Nat}{A:Nat->Bool}
end
def rdE(M:List V->HS->Option EmbD):Spec:=fun vs hs=>ob (M vs hs) fun D=>gd D.v0.pure (some (D.v0,hs))
theorem Valid.rdE{ρ:Nat->Value}{P:Program}{f:Nat}{M:List V->HS->Option EmbD}(hf:zeT P f)(h:∀ vs hs D,M vs hs=some D->D.v0.pure=true->CallOk ρ P f vs hs D.v0 hs):Valid ρ P f (rdE M) where
 fn:=hf
 ok:=by
  intro vs hs v hs' hq;simp only[J.rdE,zb,zl]at hq;obtain⟨D,hD,hp,hq⟩:=hq;cases hq;exact h _ _ _ hD hp
 kept:=by
  intro vs hs q hq;simp only[J.rdE,zb,zl]at hq;obtain⟨D,hD,hp,hq⟩:=hq;cases hq;exact .refl _
@[simp] theorem zK0 {M:List V->HS->Option EmbD} {vs:List V} {hs:HS} {Q:V×HS->Prop}:okT (J.rdE M vs hs) Q=okT (M vs hs) fun D=>D.v0.pure=true/\Q (D.v0,hs):=by
  show ok (J.rdE M vs hs) Q=ok (M vs hs) fun D=>D.v0.pure=true/\Q (D.v0,hs)
  simp only[J.rdE,zab,zct,zm]
section
variable {α β γ:Type} [Enc α] [Enc β] [Cel γ]
def rrV(w:Nat)(g:Nat)(a r:V)(id:Nat):List V:=match w with
 | 0=>[a,r]
 | 1=>[r,a]
 | 2=>[a,.ptr id 0 0]
 |_=>[a,.func g [.ptr id 0 0]]
def rrD(sz w g:Nat)(a:V)(id ro:Nat)(es:List (List V))(r:V):EmbD where
 k:=if w<2 then 1 else 2
 k':=if w<2 then 1 else 2
 π:=fun i=>if w<2 then ro else if i=0 then id else ro
 OL:=if w<2 then [(0,oO sz es)]else [(0,box [oV 1 es]),(1,oO sz es)]
 OL':=if w<2 then [(0,oO sz es)]else [(0,box [oV 1 es]),(1,oO sz es)]
 vs0:=rrV w g a (oV 0 es) 0
 v0:=r
def rrM(sz w g:Nat)(F:α->List γ->Option β)(vs:List V)(hs:HS):Option EmbD :=
 match w,vs with
 | 0,[a,.own ro x o n c]=>ob (Enc.dec a:Option α) fun t=>ob (rowOf sz hs (.own ro x o n c)) fun es=>ob (zN es:Option (List γ)) fun l=>ob (F t l) fun r=>some (rrD sz 0 g a 0 ro es (enc r))
 | 1,[.own ro x o n c,a]=>ob (Enc.dec a:Option α) fun t=>ob (rowOf sz hs (.own ro x o n c)) fun es=>ob (zN es:Option (List γ)) fun l=>ob (F t l) fun r=>some (rrD sz 1 g a 0 ro es (enc r))
 | 2,[a,.ptr id 0 0]=>ob (Enc.dec a:Option α) fun t=>ob (hs.H.get id) fun ob1=>ob (zjK ob1) fun v=>ob (rowOf sz hs v) fun es=>ob (zN es:Option (List γ)) fun l=>ob (F t l) fun r =>
  gd (et (Nat.blt id hs.n) (et (nt (Nat.beq (zC es) 0)) (nt (Nat.beq id (zcF v))))) (some (rrD sz 2 g a id (zcF v) es (enc r)))
 | 3,[a,.func g' [.ptr id 0 0]]=>ob (Enc.dec a:Option α) fun t=>ob (hs.H.get id) fun ob1=>ob (zjK ob1) fun v=>ob (rowOf sz hs v) fun es=>ob (zN es:Option (List γ)) fun l=>ob (F t l) fun r =>
  gd (et (Nat.beq g' g) (et (Nat.blt id hs.n) (et (nt (Nat.beq (zC es) 0)) (nt (Nat.beq id (zcF v)))))) (some (rrD sz 3 g a id (zcF v) es (enc r)))
 |_,_=>none
variable {sz g:Nat}{F:α->List γ->Option β}{a:V}{hs:HS}
@[simp] theorem zOe {ro x o n:Nat} {c:Option Nat}:rrM sz 0 g F [a,.own ro x o n c] hs=ob (Enc.dec a:Option α) fun t=>ob (rowOf sz hs (.own ro x o n c)) fun es=>ob (zN es:Option (List γ)) fun l=>ob (F t l) fun r=>some (rrD sz 0 g a 0 ro es (enc r)):=(rfl)
@[simp] theorem zOd {ro x o n:Nat} {c:Option Nat}:rrM sz 1 g F [.own ro x o n c,a] hs=ob (Enc.dec a:Option α) fun t=>ob (rowOf sz hs (.own ro x o n c)) fun es=>ob (zN es:Option (List γ)) fun l=>ob (F t l) fun r=>some (rrD sz 1 g a 0 ro es (enc r)):=(rfl)
@[simp] theorem zOc {id:Nat}:rrM sz 2 g F [a,.ptr id 0 0] hs=ob (Enc.dec a:Option α) fun t=>ob (hs.H.get id) fun ob1=>ob (zjK ob1) fun v=>ob (rowOf sz hs v) fun es=>ob (zN es:Option (List γ)) fun l=>ob (F t l) fun r =>
      gd (et (Nat.blt id hs.n) (et (nt (Nat.beq (zC es) 0)) (nt (Nat.beq id (zcF v))))) (some (rrD sz 2 g a id (zcF v) es (enc r))):=(rfl)
@[simp] theorem zOb {id g':Nat}:rrM sz 3 g F [a,.func g' [.ptr id 0 0]] hs=ob (Enc.dec a:Option α) fun t=>ob (hs.H.get id) fun ob1=>ob (zjK ob1) fun v=>ob (rowOf sz hs v) fun es=>ob (zN es:Option (List γ)) fun l=>ob (F t l) fun r =>
      gd (et (Nat.beq g' g) (et (Nat.blt id hs.n) (et (nt (Nat.beq (zC es) 0)) (nt (Nat.beq id (zcF v)))))) (some (rrD sz 3 g a id (zcF v) es (enc r))):=(rfl)
@[simp] theorem zKu {w id ro:Nat} {es:List (List V)} {r:V}:(rrD sz w g a id ro es r).v0=r:=(rfl)
end
end Go.J
/- Functions of two values and a row that they append to;they hand back the row and one more value. -/
namespace Go.J
open Enc (enc)
def rwK(fst:Bool)(v r:V):V:=match fst with
 |true=>.tuple [v,r]
 |false=>.tuple [r,v]
@[simp] theorem zEo {v r:V}:rwK true v r=.tuple [v,r]:=(rfl)
@[simp] theorem zAk {v r:V}:rwK false v r=.tuple [r,v]:=(rfl)
def rwS(sz:Nat)(fst:Bool)(F:V->V->List (List V)->Option (List (List V)×V)):Spec:=fun vs hs=>match vs with
 | [a,b,v]=>gd (et a.pure (et b.pure (zaz hs hs.n))) (ob (rowOf sz hs v) fun es=>ob (F a b es) fun r =>
  gd (et (r.1.all fun e=>e.all V.pure2) (et (r.2.in2 fun _=>false) (Nat.ble (zC es) (zC r.1)))) (some (rwK fst (zbA sz v es r.1 hs).1 r.2,(zbA sz v es r.1 hs).2)))
 |_=>none
def GivesP(k:Nat)(v0:V)(OL:List (Nat×Obj))(v:V)(hs:HS):Prop:=∃ a b q,v=.tuple [a,b]/\zaV a hs=some q/\GivesL k v0 OL (.tuple [zac q.1,b]) q.2
section
variable {ρ:Nat->Value}{E:Env}{f:FuncId}{fn:Func}{sc:SC}{T:PT V}{es es':List (List V)}{a b r:V}{sz:Nat}{fst:Bool}
end
section
variable {ρ:Nat->Value}{P:Program}{f:Nat}{sz:Nat}{fst:Bool}{F:V->V->List (List V)->Option (List (List V)×V)}
theorem Valid.rw (hf:zeT P f) (h:∀ a b es r,a.pure=true->b.pure=true->(es.all fun e=>e.all V.pure2)=true->F a b es=some r->(r.1.all fun e=>e.all V.pure2)=true->(r.2.in2 fun _=>false)=true->es.length<=r.1.length ->
 ∀ (hs:HS) (v:V),rowOf sz hs v=some es->hs.H.get hs.n=none->CallOk ρ P f [a,b,v] hs (rwK fst (zbA sz v es r.1 hs).1 r.2) (zbA sz v es r.1 hs).2):Valid ρ P f (rwS sz fst F) where
 fn:=hf
 ok := by
  intro vs hs v hs' hq;unfold rwS at hq;split at hq
  . rename_i a b v0;simp only[zl,zb,et_true]at hq;obtain⟨⟨ha,hb,hvac⟩,es,hes,r,hr,⟨h1,h2,h3⟩,hq⟩:=hq;cases hq;rw[vacant_eq]at hvac;rw[ble_true,zz,zz]at h3
    have h0:(es.all fun e=>e.all V.pure2)=true:=by
     rcases zfe hes with⟨_,rfl⟩|⟨_,_,_,_,_,h⟩
     . rfl
     . exact h
    exact h a b es r ha hb h0 hr h1 h2 h3 hs v0 hes hvac
  . cases hq
 kept := by
  intro vs hs q hq;unfold rwS at hq;split at hq
  . rename_i a b v0;simp only[zl,zb,et_true]at hq;obtain⟨⟨_,_,hvac⟩,es,hes,r,hr,_,hq⟩:=hq;cases hq;rw[vacant_eq]at hvac;unfold zbA
    cases es with
    | nil =>
      show Kept hs (bi (Nat.beq (zC r.1) 0) hs _);rw[zal];split
      . exact .refl _
      . refine⟨fun k hk=>List.mem_cons_of_mem _ hk,fun k o ho hn=>?_,Nat.le_succ _,fun k hk=>?_⟩
        . show (hs.H.set hs.n _).get k=_;rw[PT.set_get];split
          . rename_i e;subst e;rw[hvac]at ho;cases ho
          . exact ho
        . show (hs.H.set hs.n _).get k≠none;rw[PT.set_get];split
          . simp
          . exact hk
    |cons a l=>exact zbp ..
  . cases hq
end
section
variable {sz:Nat}{fst:Bool}{F:V->V->List (List V)->Option (List (List V)×V)}{a b v:V}{hs:HS}{Q:V×HS->Prop}
@[simp] theorem zKt:okT (rwS sz fst F [a,b,v] hs) Q=((a.pure=true/\b.pure=true/\hs.H.get hs.n=none)/\okT (rowOf sz hs v) fun es=>okT (F a b es) fun r =>
 ((r.1.all fun e=>e.all V.pure2)=true/\(r.2.in2 fun _=>false)=true/\es.length<=r.1.length)/\Q (rwK fst (zbA sz v es r.1 hs).1 r.2,(zbA sz v es r.1 hs).2)):=by
  show ok (rwS sz fst F [a,b,v] hs) Q=((a.pure=true/\b.pure=true/\hs.H.get hs.n=none)/\ok (rowOf sz hs v) fun es=>ok (F a b es) fun r =>
   ((r.1.all fun e=>e.all V.pure2)=true/\(r.2.in2 fun _=>false)=true/\es.length<=r.1.length)/\Q (rwK fst (zbA sz v es r.1 hs).1 r.2,(zbA sz v es r.1 hs).2))
  simp only[rwS,zct,zab,zm,et_true,vacant_eq,ble_true,zz]
variable {α β γ δ:Type} [Enc α] [Enc β] [Cel γ] [Enc δ]
def rwF(F:α->β->List γ->Option (List γ×δ))(a b:V)(es:List (List V)):Option (List (List V)×V) :=
 ob (Enc.dec a) fun a=>ob (Enc.dec b) fun b=>ob (zN es) fun L=>ob (F a b L) fun r=>some (r.1.map Cel.cells,enc r.2)
@[simp] theorem zOa {F:α->β->List γ->Option (List γ×δ)} {es:List (List V)}:rwF F a b es=ob (Enc.dec a) fun a=>ob (Enc.dec b) fun b=>ob (zN es) fun L=>ob (F a b L) fun r=>some (r.1.map Cel.cells,enc r.2):=(rfl)
end
theorem GivesP.keep{k:Nat}{v0 a b:V}{OL:List (Nat×Obj)}{hs:HS}(hi:nodupB (OL.map fun p=>p.1)=true)(hk:(List.range k).all (fun i=>dom OL i)=true)(hs2:ok (zaP hs a) fun a'=>V.tuple [zac a',b]=v0/\v0.in3 (dom OL)=true)
 (hH:∀ p∈OL,p.2.in (dom OL)=true/\(a.cells.any (ownB p.1))=false/\hs.H.get p.1=some p.2):GivesP k v0 OL (.tuple [a,b]) hs:=by
 obtain⟨a',ha,rfl,hv⟩:=hs2;refine⟨a,b,(a',zaG hs a.cells),rfl,by simp only[zaV,ha];rfl,GivesL.keepX hi hk hv fun p hp=>?_⟩;obtain⟨h1,h2,h3⟩:=hH p hp;exact⟨h1,by rw[zhp h2];exact h3⟩
section
variable {ρ:Nat->Value}{E:Env}{f:FuncId}{fn:Func}{sc:SC}{vs:List V}{T:PT V}{r:V}{c c':List V}
theorem z4e{K:V->HS->Prop}(hρ:Good ρ)(hcon:ConsOk ρ E)(hP:E.P.follows .mixedOrders=true)(hN:zeo E.P)(hf:E.P.funcs[f]?=some fn)(hb:fn.body.bind zh=some sc)(he:zb3 fn.ntmps (.ptr 0 0 0::vs) 0 .leaf=some T)(hp:zu vs=true)
 (hc:c.all V.pure2=true) (hc':c'.all V.pure2=true) (hr:r.in3 (fun _=>false)=true)
 (h:Wp ρ E 1 fn.ntmps sc T { H:=mkP [(0,box c)],n:=1,log:=[] } (Leaves E.P fn K)) (hK:∀ v hs,K v hs->GivesL 1 r [(0,box c')] v hs\/GivesF 1 r [(0,box c')] v hs) {hs:HS} {id:Nat} (hid:id<hs.n) (hg:hs.H.get id=some (box c)):CallOk ρ E.P f (.ptr id 0 0::vs) hs r (hs.wr id (box c')):=by
 have hren:∀ (π:Nat->Nat) (c:List V),c.all V.pure2=true->(box c).ren π=box c:=by
  intro π c hc;show Obj.arr _ _ [c.map (V.ren2 π)] _ _ _=_;rw[map_id' fun v hv=>V.ren2_pure (List.all_eq_true.1 hc v hv)];rfl
 have hbin:∀ (A:Nat->Bool) (c:List V),c.all V.pure2=true->(box c).in A=true:=by
  intro A c hc;show ([c].all fun e=>e.all fun v=>v.in2 A)=true;simp only[List.all_cons,List.all_nil,Bool.and_true];exact List.all_eq_true.2 fun v hv=>V.in2_pure2 (List.all_eq_true.1 hc v hv)
 have hps:=zb5 hp
 have key:=zuV (k:=1) (k':=1) (OL:=[(0,box c)]) (OL':=[(0,box c')]) (v0:=r) (vs0:=.ptr 0 0 0::vs) hf hb he (zhX hρ hcon hP hN h) hK rfl rfl (Nat.le_refl _)
  (fun p hp=>by simp only[List.mem_singleton]at hp;subst hp;exact hbin _ _ hc)
  (fun p hp=>by simp only[List.mem_singleton]at hp;subst hp;exact⟨hbin _ _ hc',rfl⟩)
  (V.in3_mono (fun _ h=>by cases h) hr)
  (fun v hv=>by
    rcases List.mem_cons.1 hv with rfl|hv
    . rfl
    . exact V.in3_pure (hps v hv))
  (hs:=hs) (π:=fun _=>id) (fun i j hi hj _=>by omega) (fun p hp=>by simp only[List.mem_singleton]at hp;subst hp;rw[hren _ _ hc];exact hg) (fun i hi=>absurd hi (by omega)) (fun _ _=>hid)
 rw[V.ren_none hr]at key
 have e1:(V.ptr 0 0 0::vs).map (V.ren fun _=>id)=.ptr id 0 0::vs:=by
  rw[List.map_cons,map_id' fun v hv=>V.ren_none (V.in3_pure (hps v hv))];rfl
 rw[e1]at key
 have e2:zg1 hs 1 1 (fun _=>id) [(0,box c')]=hs.wr id (box c'):=by
  show ({ H:=(hs.H.set (news hs.n 1 (fun _=>id) 0) ((box c').ren _)),n:=hs.n+0,log:=[news hs.n 1 (fun _=>id) 0]++hs.log }:HS)=_;rw[hren _ _ hc'];rfl
 grind
end
end Go.J
