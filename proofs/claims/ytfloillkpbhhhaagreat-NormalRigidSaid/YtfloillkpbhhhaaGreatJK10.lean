import Derived.Test.YtfloillkpbhhhaaGreatJK8
import Derived.Test.YtfloillkpbhhhaaGreatJK9
import Derived.Test.YtfloillkpbhhhaaGreatJK6
set_option linter.all false
noncomputable section
namespace Go.J
open bo (enc)
variable {b:Bool}{r:Bool×Z Int}{e:Ending}{E:Env}{f:FuncId}{t:G}{p q:G->Z Int->Y (Bool×Z Int)}{C:HS}{h:Int}{g i k n x:Nat}{A:Nat->Bool}{I:Nat->Value}{o:Obj}{H:PT Obj}{P:Program}{sc:SC}{s:ao}{α:Type}{c:Y Nat}{HF OL:Z (Nat×Obj)}{tr:Z Change}{D:Z Decl}{Lv:Z G}{sn:Z Int}{l m:Z Nat}{sl:Z Slot}{L:Z bQ}{y:bQ}
def HY:Nat->Z (Z V)->Z (Nat×Obj)
 |_,[]=>[]
 |i,c::l=>(i,box c)::HY (i+1) l
def M7:Nat->Nat->Z V
 |_,0=>[]
 |i,n+1=>.ptr i 0 0::M7 (i+1) n
@[simp] def zE6 :HY i []=[]:=(rfl)
@[simp] def XW  {c:Z V} {l:Z (Z V)}:HY i (c::l)=(i,box c)::HY (i+1) l:=(rfl)
@[simp] def zzv :M7 i 0=[]:=(rfl)
@[simp] def zi9 :M7 i (n+1)=.ptr i 0 0::M7 (i+1) n:=(rfl)
def C2(g:Y Nat)(l:Z V):Z V:=match g with
 |none=>l
 |some g=>[.func g l]
@[simp] def zbs {l:Z V}:C2 none l=l:=(rfl)
@[simp] def zbr  {l:Z V}:C2 (some g) l=[.func g l]:=(rfl)
def NR (g:Y Nat) (l:Z V):Y (Z V):=match g with
 |none=>some l
 | some g=>(match l with
   | [.func g' l]=>gd (Nat.beq g' g) (some l)
   |_=>none)
@[simp] def zyi {l:Z V}:NR none l=some l:=(rfl)
@[simp] def zyh  {l:Z V}:NR (some g) [.func g l]=some l:=by
  show gd (Nat.beq g g) (some l)=_;rw[beq_true.2 rfl];rfl
def XU{g:Y Nat}{l m:Z V}(h:NR g l=some m):l=C2 g m:=by
 cases g with
 |none=>cases h;rfl
 | some g =>
   unfold NR at h;dsimp only at h;split at h
   . simp only[bE,beq_true]at h;obtain⟨rfl,h⟩:=h;cases h;rfl
   . cases h
def zoW(o:Obj):Y (Z V):=match o with
 |.arr n 0 [c] true false false=>gd (et (Nat.beq n (dA c)) (c.all V.bM)) (some c)
 |_=>none
theorem zoV{c:Z V}(h:zoW o=some c):o=box c/\c.all V.bM=true:=by
 unfold zoW at h;split at h
 . simp only[bE,dx,beq_true]at h;obtain⟨⟨rfl,M⟩,h⟩:=h;cases h;exact⟨rfl,M⟩
 . cases h
@[simp] def zKR  {c:Z V}:zoW (.arr n 0 [c] true false false)=gd (et (Nat.beq n (dA c)) (c.all V.bM)) (some c):=(rfl)
def Br(C:HS):Z V->Y (Z (Nat×Z V))
 | []=>some []
 |.ptr id 0 0::l=>W (C.H.get id) λo=>W (zoW o) λc=>gd (Nat.blt id C.n) (W (Br C l) λr=>some ((id,c)::r))
 |_=>none
@[simp] def zyg :Br C []=some []:=by rw[Br]
@[simp] def zyf  {id:Nat} {l:Z V}:Br C (.ptr id 0 0::l)=W (C.H.get id) λo=>W (zoW o) λc=>gd (Nat.blt id C.n) (W (Br C l) λr=>some ((id,c)::r)):=by rw[Br]
theorem zft:∀ {l:Z V} {q:Z (Nat×Z V)},Br C l=some q->l=q.map (λp=>V.ptr p.1 0 0)/\∀ p∈q,C.H.get p.1=some (box p.2)/\p.1<C.n/\p.2.all V.bM=true:=by
 intro l
 induction l with
 |nil=>intro q h;rw[Br]at h;cases h;exact⟨rfl,λp hp=>by cases hp⟩
 | cons v l ih =>
   intro q h;unfold Br at h
   grind [id,aA,bE,gz,zoV]
def rW(v:V):Z Nat:=match v with
 |.own id _ _ _ _=>[id]
 |_=>[]
@[simp] def zwp {id o:Nat} :rW (.own id g o n c)=[id]:=(rfl)
@[simp] def zus:rW .aE=[]:=(rfl)
@[simp] def zzi {es:Z (Z V)} :rW (.sl es b)=[]:=(rfl)
@[simp] def zwq {l:Z V}:rW (.agg l)=[]:=(rfl)
def P9(sz:Nat)(C:HS)(v:V):Y V:=match v with
 |.aE=>some (.sl [] false)
 |.own i g o n c=>W (rowOf sz C (.own i g o n c)) λes=>some (.sl es false)
 |v=>gd v.pure (some v)
@[simp] def zvC {sz:Nat} :P9 sz C .aE=some (.sl [] false):=(rfl)
@[simp] def zyX {sz:Nat}  {o:Nat} :P9 sz C (.own i g o n c)=W (rowOf sz C (.own i g o n c)) λes=>some (.sl es false):=(rfl)
@[simp] def zBF {sz:Nat}  {es:Z (Z V)} :P9 sz C (.sl es b)=gd (V.sl es b).pure (some (.sl es b)):=(rfl)
@[simp] def zyY {sz:Nat}  {l:Z V}:P9 sz C (.agg l)=gd (V.agg l).pure (some (.agg l)):=(rfl)
def zOq(sz n:Nat)(X X0:V)(RL:Z (Nat×Obj)):Prop:=(X0=X/\RL=[]/\X.pure=true)\/∃ es,X=.sl es false/\X0=oV n es/\RL=oH n sz es/\(es.all λe=>e.all V.bM)=true
def OV(sz:Nat)(g:Y Nat)(F:V->Z (Z V)->Y V):Spec:=λvs C=>match vs with
 |x::cl=>W (NR g cl) λl=>W (Br C l) λq=>gd (cd (q.map Prod.fst++rW x)) (W (P9 sz C x) λX=>W (F X (q.map Prod.snd)) λr=>gd r.pure (some (r,C)))
 |_=>none
theorem D9:∀ {l:Z (Nat×Obj)},(∀ p∈l,H.get p.1=some p.2)->∀ id,(xY H l).get id=H.get id:=by
 intro l
 induction l with
 |nil=>intro _ id;rfl
 | cons p l ih =>
   intro h id;show ((xY H l).set p.1 p.2).get id=_
   simp_all
def zo6(l:Z (Z V)):∀ i,(HY i l).map Prod.fst=List.range' i l.length:=by
 induction l with
 |nil=>intro i;rfl
 |cons c l ih=>intro i;rw[XW,aR,ih (i+1)];rfl
def zo5{l:Z (Z V)}:∀ {i:Nat} {p:Nat×Obj},p∈HY i l->∃ j c,p=(i+j,box c)/\l[j]?=some c:=by
 induction l with
 |nil=>intro i p h;cases h
 | cons c l ih =>
   intro i p h;rw[XW]at h;rcases aB.1 h with rfl|h
   . exact⟨0,c,rfl,rfl⟩
   . obtain⟨j,c',rfl,O⟩:=ih h;exact⟨j+1,c',by rw[show i+1+j=i+(j+1) by omega],by simpa using O⟩
def TF(n:Nat):∀ i,M7 i n=(List.range' i n).map λj=>V.ptr j 0 0:=by
 induction n with
 |zero=>intro i;rfl
 |succ n ih=>intro i;rw[zi9,ih];rfl
theorem fS(h:i<l.length):l.getD i 0=l[i]:=by simp[List.getD,h]
def CZ(h:cd l=true){j:Nat}(hi:i<l.length)(hj:j<l.length)(e:l.getD i 0=l.getD j 0):i=j:=by
 have:=O1 h;rw[fS hi,fS hj]at e;exact(List.getElem_inj this).1 e
section
variable {fn:Func}{T:PT V}{g:Y Nat}{X X0 r:V}{RL:Z (Nat×Obj)}{cs:Z (Z V)}{sz:Nat}
def TD (hρ:Good I) (aq:bH I E) (hP:E.P.follows .mixedOrders=true) (hN:vK E.P) (hf:E.P.funcs[f]?=some fn) (hb:fn.body.bind aU=some sc)
 (he:jE fn.ntmps (X0::C2 g (M7 0 cs.length)) 0 .leaf=some T) (hr:r.pure=true)
 (h:Wp I E (cs.length+RL.length) fn.ntmps sc T { H:=dW (HY 0 cs++RL),n:=cs.length+RL.length,log:=[] } (Leaves E.P fn (aH (cs.length+RL.length) r (HY 0 cs++RL))))
 {x:V}  {q:Z (Nat×Z V)} (hq:q.map Prod.snd=cs) (hc:∀ p∈q,C.H.get p.1=some (box p.2)/\p.1<C.n/\p.2.all V.bM=true) (eN:cd (q.map Prod.fst++rW x)=true)
 (hx:(X0=x/\RL=[]/\x.pure=true/\rW x=[])\/∃ es i,x=oV i es/\es≠[]/\X0=oV cs.length es/\RL=oH cs.length sz es/\(es.all λe=>e.all V.bM)=true/\C.H.get i=some (oO sz es)/\i<C.n) :
 aT I E.P f (x::C2 g (q.map λp=>V.ptr p.1 0 0)) C r C:=by
 have It:q.length=cs.length:=by rw[<- hq];simp
 have hk:(q.map Prod.fst++rW x).length=cs.length+RL.length:=by
  rcases hx with⟨_,rfl,_,h4⟩|⟨es,i,rfl,cb,_,rfl,_⟩
  . rw[h4];simp[It]
  . rw[uo cb,jy cb];simp[It]
 have S0:(HY 0 cs++RL).map Prod.fst=List.range (cs.length+RL.length):=by
  rw[dz,zo6,List.range_eq_range'];rcases hx with⟨_,rfl,_,_⟩|⟨es,i,_,cb,_,rfl,_⟩
  . simp
  . rw[jy cb];simp[List.range'_concat]
 have hdom:∀ i,i<cs.length+RL.length->cr (HY 0 cs++RL) i=true:=by
  intro i hi;have:i∈(HY 0 cs++RL).map Prod.fst:=by rw[S0];exact dB.2 hi
  obtain⟨p,hp,rfl⟩:=aI.1 this;exact di.2 ⟨p,hp,beq_true.2 rfl⟩
 let π:Nat->Nat:=λi=>(q.map Prod.fst++rW x).getD i 0
 have zL5:∀ i (hi:i<q.length),π i=q[i].1:=by
  intro i hi;show (q.map Prod.fst++rW x).getD i 0=_;rw[fS (by simp;omega),List.getElem_append_left (by simpa using hi),ja]
 have HV:∀ p∈HY 0 cs++RL,C.H.get (π p.1)=some p.2/\(∀ σ,p.2.cq σ=p.2)/\p.2.fz=false/\(∀ A,p.2.in A=true)/\π p.1<C.n:=by
  intro p hp;rcases bA.1 hp with hp|hp
  . obtain⟨j,c,rfl,hj⟩:=zo5 hp;rw[<- hq,bC]at hj;have xr:j<q.length:=jK λh=>by rw[jR h]at hj;cases hj
    rw[ax xr]at hj;cases hj;obtain⟨a1,a2,a3⟩:=hc q[j] (az xr);have e:π (0+j)=q[j].1:=by rw[gI];exact zL5 j xr
    refine⟨by rw[e];exact a1,λσ=>?_,rfl,λA=>?_,by rw[e];exact a2⟩
    . show Obj.arr _ _ [q[j].2.map (V.jl σ)] _ _ _=_;rw[map_id' λv hv=>V.jP (aj.1 a3 v hv)];rfl
    . show (([q[j].2]:Z (Z V)).all λe=>e.all (V.zM A))=true;simp only[iW,rz,fM];exact aj.2 λv hv=>V.zL (aj.1 a3 v hv)
  . rcases hx with⟨_,rfl,_,_⟩|⟨es,i,rfl,cb,_,rfl,h5,h6,h7⟩
    . cases hp
    . rw[jy cb]at hp;obtain rfl:=ay.1 hp
      have e:π cs.length=i:=by
       show (q.map Prod.fst++rW (oV i es)).getD cs.length 0=i;rw[uo cb,fS (by simp[It]),List.getElem_append_right (by simp[It])];simp
      exact⟨by show C.H.get (π cs.length)=_;rw[e];exact h6,λσ=>CY h5,rfl,λA=>zC0 h5,by show π cs.length<_;rw[e];exact h7⟩
 have ef:(X0::C2 g (M7 0 cs.length)).map (V.cq π)=x::C2 g (q.map λp=>V.ptr p.1 0 0):=by
  have hp:(M7 0 cs.length).map (V.xW π)=q.map λp=>V.ptr p.1 0 0:=by
   rw[TF,iy];refine List.ext_getElem (by simp[It]) λi M O=>?_
   simp only[ja,List.getElem_range',Function.comp];have hi:i<q.length:=by simpa using O
   show V.ptr (π (0+1*i)) 0 0=V.ptr q[i].1 0 0;rw[show 0+1*i=i by omega,zL5 i hi]
  have hp3:(M7 0 cs.length).map (V.cq π)=q.map λp=>V.ptr p.1 0 0:=by
   rw[<- hp,TF,iy,iy];rfl
  rw[aR]
  congr 1
  . rcases hx with⟨rfl,_,h3,_⟩|⟨es,i,rfl,cb,rfl,_,_,_,_⟩
    . exact V.jw (V.dU h3)
    . rw[uo cb,uo cb];show V.own (π cs.length) _ _ _ _=_
      have e:π cs.length=i:=by
       show (q.map Prod.fst++rW (oV i es)).getD cs.length 0=i;rw[uo cb,fS (by simp[It]),List.getElem_append_right (by simp[It])];simp
      rw[e]
  . cases g with
    |none=>exact hp3
    | some g =>
      show [V.func g ((M7 0 cs.length).map (V.xW π))]=_;rw[hp];rfl
 have zJ2:∀ v∈X0::C2 g (M7 0 cs.length),v.tJ (cr (HY 0 cs++RL))=true:=by
  intro v hv
  have zD0:∀ u∈M7 0 cs.length,∃ j,u=.ptr j 0 0/\cr (HY 0 cs++RL) j=true:=by
   intro u hu;rw[TF]at hu;obtain⟨j,hj,rfl⟩:=aI.1 hu;have:=List.mem_range'_1.1 hj;exact⟨j,rfl,hdom j (by omega)⟩
  rcases aB.1 hv with rfl|hv
  . rcases hx with⟨rfl,_,h3,_⟩|⟨es,i,rfl,cb,rfl,rfl,_,_,_⟩
    . exact V.dU h3
    . rw[uo cb];exact hdom cs.length (by rw[jy cb];simp)
  . cases g with
    |none=>obtain⟨j,rfl,hj⟩:=zD0 v hv;exact hj
    | some g =>
      obtain rfl:=ay.1 hv;show ((M7 0 cs.length).all (V.Mr _))=true;exact aj.2 λu hu=>by obtain⟨j,rfl,hj⟩:=zD0 u hu;exact hj
 have key:=GA (k:=cs.length+RL.length) (k':=cs.length+RL.length) (OL:=HY 0 cs++RL) (cI:=HY 0 cs++RL) (v0:=r) (dq:=X0::C2 g (M7 0 cs.length)) hf hb he (DF hρ aq hP hN h) S0 S0 (af _)
  (λp hp=>(HV p hp).2.2.2.1 _) (λp hp=>⟨(HV p hp).2.2.2.1 _,(HV p hp).2.2.1⟩) (V.dU hr) zJ2 (C:=C) (π:=π)
  (λi j hi hj e=>CZ eN (by omega) (by omega) e) (λp hp=>by rw[(HV p hp).2.1];exact(HV p hp).1) (λi hi=>absurd hi (by omega))
  (λi hi=>by
    have:i∈(HY 0 cs++RL).map Prod.fst:=by rw[S0];exact dB.2 hi
    obtain⟨p,hp,rfl⟩:=aI.1 this
    exact(HV p hp).2.2.2.2)
 rw[V.jw (V.dU hr),ef]at key;replace key:aT I E.P f (x::C2 g (q.map λp=>V.ptr p.1 0 0)) C r _:=key
 have gO:∀ id,(Dn C (cs.length+RL.length) (cs.length+RL.length) π (HY 0 cs++RL)).H.get id=C.H.get id:=by
  intro id;refine D9 (λp hp=>?_) id;obtain⟨p0,pL,rfl⟩:=aI.1 hp;have cC:p0.1<cs.length+RL.length:=dB.1 (by rw[<- S0];exact aI.2 ⟨p0,pL,rfl⟩);show C.H.get (news C.n _ π p0.1)=some (p0.2.cq _);rw[(HV p0 pL).2.1,show news C.n (cs.length+RL.length) π p0.1=π p0.1 from if_pos cC];exact(HV p0 pL).1
 exact aT.quiet key hr (λid o ho=>by rw[gO];exact ho) (λid _ hn=>by rw[gO];exact hn)
end
section
variable {f:Nat}{sz:Nat}{g:Y Nat}{F:V->Z (Z V)->Y V}
def Valid.rd (hf:wh P f) (h:∀ X cs r,F X cs=some r->r.pure=true->∀ x X0 RL,zOq sz cs.length X X0 RL ->
 ∀ (C:HS) (q:Z (Nat×Z V)),q.map Prod.snd=cs->(∀ p∈q,C.H.get p.1=some (box p.2)/\p.1<C.n/\p.2.all V.bM=true)->cd (q.map Prod.fst++rW x)=true ->
   ((X0=x/\RL=[]/\x.pure=true/\rW x=[])\/∃ es i,x=oV i es/\es≠[]/\X0=oV cs.length es/\RL=oH cs.length sz es/\(es.all λe=>e.all V.bM)=true/\C.H.get i=some (oO sz es)/\i<C.n) ->
   aT I P f (x::C2 g (q.map λp=>V.ptr p.1 0 0)) C r C):Valid I P f (OV sz g F) where
 fn:=hf
 ok := by
  intro vs C v a8 hq;unfold OV at hq;split at hq
  . rename_i x cl;simp only[aA,bE]at hq;obtain⟨l,hl,q,u3,eN,X,hX,r,hr,hp,hq⟩:=hq;cases hq;have e1:=XU hl;subst e1;obtain⟨rfl,hc⟩:=zft u3;unfold P9 at hX;split at hX
    . cases hX;exact h _ _ _ hr hp .aE .aE [] (.inr ⟨[],rfl,rfl,rfl,rfl⟩) C q rfl hc eN (.inl ⟨rfl,rfl,rfl,rfl⟩)
    . rename_i i g o n c;simp only[aA]at hX;obtain⟨es,gA,hX⟩:=hX;cases hX;rcases Ct gA with⟨M,_⟩|⟨id,M,O,h3,h4,h5⟩
      . cases M
      . rw[M]at eN ⊢;exact h _ _ _ hr hp (oV id es) (oV _ es) (oH _ sz es) (.inr ⟨es,rfl,rfl,rfl,h5⟩) C q rfl hc eN (.inr ⟨es,id,rfl,O,rfl,rfl,h5,h3,h4⟩)
    . rename_i M O;simp only[bE]at hX;obtain⟨AD,hX⟩:=hX;cases hX
      have ue:rW x=[]:=by
       unfold rW;split
       . exact absurd rfl (O _ _ _ _ _)
       . rfl
      exact h _ _ _ hr hp x x [] (.inl ⟨rfl,rfl,AD⟩) C q rfl hc eN (.inl ⟨rfl,rfl,AD,ue⟩)
  . cases hq
 kept:=by
  intro vs C q hq;unfold OV at hq;split at hq
  . simp only[aA,bE]at hq;obtain⟨_,_,_,_,_,_,_,_,_,_,hq⟩:=hq;cases hq;exact .refl _
  . cases hq
end
section
variable {sz:Nat}{g:Y Nat}{F:V->Z (Z V)->Y V}{x:V}{cl:Z V}{Q:V×HS->Prop}
@[simp] def zIV:Cu (OV sz g F (x::cl) C) Q=Cu (NR g cl) λl=>Cu (Br C l) λq=>cd (q.map Prod.fst++rW x)=true/\Cu (P9 sz C x) λX=>Cu (F X (q.map Prod.snd)) λr=>r.pure=true/\Q (r,C):=by
  show ok (OV sz g F (x::cl) C) Q=ok (NR g cl) λl=>ok (Br C l) λq=>cd (q.map Prod.fst++rW x)=true/\ok (P9 sz C x) λX=>ok (F X (q.map Prod.snd)) λr=>r.pure=true/\Q (r,C)
  simp only[OV,wz,iQ,dP]
variable {β γ σ τ:Type} [bo α] [bo β] [iC σ] [iC τ]
def BV(F:α->σ->Y β)(x:V)(cs:Z (Z V)):Y V:=match cs with
 | [c]=>W (bo.dec x) λa=>W (iC.dec c) λs=>W (F a s) λr=>some (enc r)
 |_=>none
@[simp] def zIW {F:α->σ->Y β} {x:V} {c:Z V}:BV F x [c]=W (bo.dec x) λa=>W (iC.dec c) λs=>W (F a s) λr=>some (enc r):=(rfl)
def IC{F:α->σ->Y β}{x:V}{cs:Z (Z V)}{r:V}(h:BV F x cs=some r):∃ a s b,x=enc a/\cs=[iC.cells s]/\F a s=some b/\r=enc b:=by
 unfold BV at h;split at h
 . simp only[aA]at h;obtain⟨a,ha,s,C,b,hb,h⟩:=h;cases h;exact⟨a,s,b,bo.bq _ _ ha,by rw[iC.bq _ _ C],hb,rfl⟩
 . cases h
end
section
variable {π σ:Nat->Nat}
def V.wV(h:∀ i,A i=true->π i=σ i){v:V}(hv:v.Mr A=true):v.xW π=v.xW σ:=by
 cases v<;>first|rfl|(simp only[V.xW];rw[h _ hv])
theorem V.zd4(h:∀ i,A i=true->π i=σ i){v:V}(hv:v.zM A=true):v.jl π=v.jl σ:=by
 cases v with
 |agg cs=>show V.agg (cs.map (V.xW π))=V.agg (cs.map (V.xW σ));rw[gm λu hu=>V.wV h (aj.1 (show (cs.all (V.Mr A))=true from hv) u hu)]
 |func f cs=>show V.func f (cs.map (V.xW π))=V.func f (cs.map (V.xW σ));rw[gm λu hu=>V.wV h (aj.1 (show (cs.all (V.Mr A))=true from hv) u hu)]
 |iface t v=>show V.iface t (v.xW π)=V.iface t (v.xW σ);rw[V.wV h (show v.Mr A=true from hv)]
 |ptr id g off=>exact V.wV (v:=.ptr id g off) h hv
 |own id g off len cap=>exact V.wV (v:=.own id g off len cap) h hv
 |map id=>exact V.wV (v:=.map id) h hv
 |ly id=>exact V.wV (v:=.ly id) h hv
 |_=>rfl
theorem Obj.OP(h:∀ i,A i=true->π i=σ i)(ho:o.in A=true):o.cq π=o.cq σ:=by
 cases o with
 | arr size gen es ex fz row =>
   show Obj.arr _ _ _ _ _ _=Obj.arr _ _ _ _ _ _
   congr 1
   refine gm λe he=>gm λv hv=>?_
   have M:=aj.1 (aj.1 (show (es.all λe=>e.all λv=>if row then v.bM else v.zM A)=true from ho) e he) v hv
   grind [V.jP,V.zd4]
 |mp es=>rfl
 |lp=>rfl
end
def wA(cJ:Z V->HS->Y EmbD):Spec:=λvs C=>W (cJ vs C) λD=>gd D.v0.pure (some (D.v0,C))
theorem zrD{fn:Func}{T:PT V}{D:EmbD}(hρ:J.Good I)(aq:bH I E)(hP:E.P.follows .mixedOrders=true)(hN:vK E.P)(hf:E.P.funcs[f]?=some fn)(hb:fn.body.bind aU=some sc)(he:jE fn.ntmps D.dq 0 .leaf=some T)
 (hg:D.Good) (ho:D.cI=D.OL) (hr:D.v0.pure=true) (h:Wp I E D.k fn.ntmps sc T { H:=dW D.OL,n:=D.k,log:=[] } (Leaves E.P fn (aH D.k D.v0 D.OL))) {vs:Z V}  (b4:D.Fits vs C) :
 aT I E.P f vs C D.v0 C:=by
 have key:=zfb hρ aq hP hN hf hb he hg (by rw[ho];exact h) b4;rw[V.jw (V.dU hr)]at key
 have gO:∀ id,(Dn C D.k D.k' D.π D.cI).H.get id=C.H.get id:=by
  intro id;refine D9 (λp hp=>?_) id;obtain⟨p0,pL,rfl⟩:=aI.1 hp;have Bx:p0∈D.OL:=by rw[<- ho];exact pL
  have cC:∀ i,cr D.OL i=true->i<D.k:=by
   intro i hi;obtain⟨q,hq,Ok⟩:=di.1 hi;rw[beq_true]at Ok;exact dB.1 (by rw[<- hg.ol];exact aI.2 ⟨q,hq,Ok⟩)
  have h0:p0.1<D.k:=cC _ (di.2 ⟨p0,Bx,beq_true.2 rfl⟩);show C.H.get (news C.n D.k D.π p0.1)=some (p0.2.cq (news C.n D.k D.π));rw[show news C.n D.k D.π p0.1=D.π p0.1 from if_pos h0,Obj.OP (A:=cr D.OL) (π:=news C.n D.k D.π) (σ:=D.π) (λi hi=>if_pos (cC i hi)) (hg.Mu p0 Bx)];exact b4.obj p0 Bx
 grind [aT.quiet,id]
def Valid.wA{f:Nat}{cJ:Z V->HS->Y EmbD}(hf:wh P f)(h:∀ vs C D,cJ vs C=some D->D.v0.pure=true->aT I P f vs C D.v0 C):Valid I P f (wA cJ) where
 fn:=hf
 ok:=by
  intro vs C v a8 hq;simp only[J.wA,aA,bE]at hq;obtain⟨D,hD,hp,hq⟩:=hq;cases hq;exact h _ _ _ hD hp
 kept:=by
  intro vs C q hq;simp only[J.wA,aA,bE]at hq;obtain⟨D,hD,hp,hq⟩:=hq;cases hq;exact .refl _
@[simp] def zIX {cJ:Z V->HS->Y EmbD} {vs:Z V}  {Q:V×HS->Prop}:Cu (J.wA cJ vs C) Q=Cu (cJ vs C) λD=>D.v0.pure=true/\Q (D.v0,C):=by
  show ok (J.wA cJ vs C) Q=ok (cJ vs C) λD=>D.v0.pure=true/\Q (D.v0,C)
  simp only[J.wA,iQ,wz,dP]
mutual
theorem Qb:∀ t:G,t.valid=true->t.zbU=true
 | .mk k n i h l=>λhv=>by
   have ha:=G.Lg hv;rw[G.zbU,KE l (λu hu=>ha u hu),fM];by_cases hk:k=1
   . subst hk;simp only[G.valid]at hv;simp at hv;simp[hv]
   . simp[hk]
theorem KE:∀ l:Z G,(∀ u∈l,u.valid=true)->G.Gr l=true
 | []=>λ_=>by rw[G.Gr]
 |t::l=>λh=>by rw[G.Gr,Qb t (h t (aD ..)),KE l (λu hu=>h u (aF _ hu))];rfl
end
def XN(h:t.valid=true):wE [t] []=tQ [t]:=(zh6 (by rw[G.Gr,Qb t h];rfl)).symm
def zk9(D:Z Decl):Prop:=∀ d∈D,Be d.name=true/\d.name≠[45,62]/\d.name≠[73,110,116]/\d.params.length<=4
def Jj(bits:Int):zk9 (bu bits):=by
 intro d hd;have key:∀ d∈Kw,Be d.name=true/\d.name≠[45,62]/\d.name≠[73,110,116]/\d.params.length<=4:=by decide
 exact key d (ky hd)
def zdv:Ik.valid=true:=by decide
theorem zdw{n:Z Nat}{l:Z G}(M:Be n=true)(O:n≠[45,62])(h3:n≠[73,110,116])(h4:l.length<=4)(hl:∀ x∈l,x.valid=true):(uM n l).valid=true:=by
 grind [G.zx,uM,G.valid]
def Yb{a b:G}(ha:a.valid=true)(hb:b.valid=true):(vO a b).valid=true:=by
 simp[vO,uM,G.valid,G.qw,ha,hb]
theorem DY(hD:zk9 D)(hl:∀ l∈Lv,l.valid=true)(d:Nat)(t:Tp):(jb d t D Lv).2.valid=true :=
 Cs (P:=λt=>t.valid=true) hl zdv (λdd hd l fX hx=>by
  obtain⟨M,O,h3,h4⟩:=hD dd hd
  exact zdw M O h3 (by omega) hx) (λa b ha hb=>Yb ha hb) d t
mutual
theorem Qa:∀ t:G,t.valid=true->t.short=true
 | .mk k n i h l=>λhv=>by
   have ha:=G.Lg hv;rw[G.short,KD l (λu hu=>ha u hu),fM,decide_eq_true_eq];unfold G.valid at hv
   have GS : n.length ≤ 12 → n.length < 2^63 := fun h => by have:(12:Nat)<2^63:=by decide
                                                            omega
   refine GS ?_;split at hv
   . simp at hv;rw[hv.1.1.2];decide
   . split at hv
     . simp at hv;rw[hv.1.2];decide
     . split at hv
       . simp[j6]at hv;omega
       . split at hv
         . split at hv
           . rename_i e;rw[e];decide
           . split at hv
             . rename_i e;rw[e];decide
             . simp[Be]at hv;omega
         . cases hv
theorem KD:∀ l:Z G,(∀ u∈l,u.valid=true)->G.rV l=true
 | []=>λ_=>by rw[G.rV]
 |t::l=>λh=>by rw[G.rV,Qa t (h t (aD ..)),KD l (λu hu=>h u (aF _ hu))];rfl
end
namespace ao
def gs(x:Slot):Prop:=if x.bound=true then x.type.valid=true else x.type=tT
structure zOs(s:ao):Prop where
 len:s.a9.length<=1000
 zc:∀ x∈s.a9,gs x
end ao
namespace ao
def vt (rec:G->Z Int->Y (Bool×Z Int)):Z G->Z Int->Y (Bool×Z Int)
 | [],sn=>some (false,sn)
 | t::l,sn=>match rec t sn with
   |none=>none
   |some (true,DU)=>some (true,DU)
   |some (false,DU)=>vt rec l DU
def eW (s:ao) (h:Int):Nat->G->Z Int->Y (Bool×Z Int)
 | 0,_,_=>none
 | f + 1,t,sn=>if t.kind=1 then (if t.id∈sn then some (false,sn)else match s.cg t.id with
     |none=>some (decide (h<0),sn++[t.id])
     |some x=>if x.bound=true then eW s h f x.type (sn++[t.id])else some (false,sn++[t.id]))
   else if t.kind=3 then some (decide (h<t.home),sn)
   else vt (eW s h f) t.args sn
theorem zb2(h:∀ t sn r,p t sn=some r->q t sn=some r):∀ (l:Z G) (sn:Z Int) (r:Bool×Z Int),vt p l sn=some r->vt q l sn=some r:=by
 intro l
 induction l with
 |nil=>intro sn r h;exact h
 | cons t l ih =>
   grind [vt,w]
theorem zoc(s:ao)(h:Int):∀ (f:Nat) (t:G) (sn:Z Int) (r:Bool×Z Int),eW s h f t sn=some r->eW s h (f+1) t sn=some r:=by
 intro f
 induction f with
 |zero=>intro t sn r hh;cases hh
 | succ f ih =>
   grind [eW,zb2]
theorem FB{f:Nat}(hfg:f<=g)(hh:eW s h f t sn=some r):eW s h g t sn=some r:=by
 induction hfg with
 |refl=>exact hh
 |step _ ih=>exact zoc _ _ _ _ _ _ ih
theorem zod:∀ (l:Z G),(∀ u∈l,∃ f,∀ sn,∃ r,eW s h f u sn=some r)->∃ f,∀ sn,∃ r,vt (eW s h f) l sn=some r:=by
 intro l
 induction l with
 |nil=>intro _;exact⟨0,λsn=>⟨_,rfl⟩⟩
 | cons t l ih =>
   intro hh;obtain⟨f,hf⟩:=hh t (aD ..);obtain⟨g,hg⟩:=ih λu hu=>hh u (aF _ hu)
   refine⟨max f g,λsn=>?_⟩;obtain⟨⟨b,DU⟩,hr⟩:=hf sn;rw[vt,FB (iG f g) hr];cases b
   . obtain⟨r,Ax⟩:=hg DU
     grind [zb2,FB,Nat.le_max_right]
   . exact⟨_,rfl⟩
def zho    (ht:s.Fin t):∃ f,∀ sn,∃ r,eW s h f t sn=some r:=by
 refine Fin.ind (p:=λt=>∃ f,∀ sn,∃ r,eW s h f t sn=some r) (λt hb ih=>?_) (λt hb ih=>?_) ht
 . obtain⟨f,hf⟩:=ih;obtain⟨hk,i,x,hi,hl,hx,z7,s6⟩:=pM hb;refine⟨f+1,λsn=>?_⟩;have e:s.cg t.id=some x:=by rw[hi,fj];exact hx
   rw[eW,if_pos hk];split
   . exact⟨_,rfl⟩
   . rw[e];simp only;rw[if_pos z7,<- s6];exact hf _
 . obtain ⟨f,hf⟩:=zod (h:=h) t.args ih;refine⟨f+1,λsn=>?_⟩;rw[eW];split
   . rename_i hk;split
     . exact⟨_,rfl⟩
     . split
       . exact⟨_,rfl⟩
       . rename_i x e;split
         . rename_i z7;have:=Jt hk e;rw[hb,z7]at this;cases this
         . exact⟨_,rfl⟩
   . split
     . exact⟨_,rfl⟩
     . exact hf sn
inductive Bl (s:ao):G->G->Prop
 |one {u t:G}:s.below u t->Bl s u t
 |more {u v t:G}:s.below u v->Bl s v t->Bl s u t
def Bl.zJr   (h:s.Fin t):¬ Bl s t t:=by
 have key:∀ t,Acc s.below t->Acc (Bl s) t:=λt ht=>by
  induction ht with
  | intro t _ ih =>
    refine .intro t λu hu=>?_
    clear h
    have:∀ u v,Bl s u v->v=t->Acc (Bl s) u:=λu v huv=>by
     induction huv with
     |one h=>intro e;subst e;exact ih _ h
     |more h _ Kd=>intro e;exact(Kd e).inv (.one h)
    exact this u t hu rfl
 have zJr:∀ t,Acc (Bl s) t->¬ Bl s t t:=λt ht=>by
  induction ht with
  |intro t _ ih=>intro hh;exact ih t hh hh
 exact zJr t (key t h)
def tH(s:ao)(i:Int)(x:Slot):ao:=if (s.fO i).bound=x.bound/\(s.fO i).home=x.home/\(s.fO i).base=x.base then s else (s.set i x).1
def qN(s:ao)(i:Int)(t:G):ao:=s.tH i { s.fO i with bound:=true,type:=t }
def pJ(s:ao)(a b:Int):Slot:={ s.fO a with home:=min (s.fO a).home (s.fO b).home,base:=(s.fO a).base||(s.fO b).base }
def vD(s:ao)(a b:G):ao:=if b.id<a.id then (s.tH b.id (s.pJ b.id a.id)).qN a.id b else (s.tH a.id (s.pJ a.id b.id)).qN b.id a
def nA(s:ao)(t:G):Bool:=s.nH t&&!(s.fO t.id).bound
def Dc(home:Int)(s:ao)(v:Int):ao:=if s.nA (fq v)=true then s.tH v { s.fO v with home:=min (s.fO v).home home }else s
def Qx(s:ao)(h:Int)(t:G):Bool:=open Classical in if hh:∃ q,∃ f,eW s h f t []=some q then hh.choose.1 else false
theorem Uz{f:Nat}{q:Bool×Z Int}(hq:eW s h f t []=some q):s.Qx h t=q.1:=by
 have hh:∃ q,∃ f,eW s h f t []=some q:=⟨q,f,hq⟩;unfold Qx;rw[dif_pos hh];obtain⟨g,hg⟩:=hh.choose_spec;have M:=FB (iG f g) hq
 grind [FB,Nat.le_max_right,Option.some.inj]
def pU(s:ao)(v:Int)(t:G):ao×Int :=
 if v∈nR s [t]then (s,12)else
 if (s.fO v).base=true/\(isArrow t).c=true then (s,14)else
 if s.Qx (s.fO v).home t=true then (s,13)else
 (((nR s [t]).foldl (Dc (s.fO v).home) s).qN v t,0)
def je(s:ao)(a b:G):Z bQ×Int×ao :=
 if 200<sz s.w a 200\/200<sz s.w b 200 then ([],15,s)else
 if (s.w a).kind=1/\(s.w b).kind=1/\(s.w a).id=(s.w b).id then ([],0,s)else
 if s.nA (s.w a)=true then (if s.nA (s.w b)=true then ([],0,s.vD (s.w a) (s.w b))else ([],(s.pU (s.w a).id (s.w b)).2,(s.pU (s.w a).id (s.w b)).1))else
 if s.nA (s.w b)=true then ([],(s.pU (s.w b).id (s.w a)).2,(s.pU (s.w b).id (s.w a)).1)else
 if fg (s.w a) (s.w b)then ([],11,s)else
 (List.zipWith (λx y=>(⟨x,y⟩:bQ)) (s.w a).args (s.w b).args,0,s)
structure Tw(s p:ao):Prop where
 a9:p.a9=s.a9
 b7:p.b7.length<=s.b7.length
theorem Tw.refl(s:ao):Tw s s:=⟨rfl,af _⟩
section
variable {p:ao}
def Tw.cg (h:Tw s p)(i:Int):p.cg i=s.cg i:=by unfold ao.cg;rw[h.a9]
def Tw.fO(h:Tw s p)(i:Int):p.fO i=s.fO i:=by unfold ao.fO;rw[h.cg]
theorem Tw.nH(h:Tw s p)(t:G):p.nH t=s.nH t:=by unfold ao.nH;rw[h.cg]
theorem Tw.eW(h:Tw s p)(hm:Int):∀ (f:Nat) (t:G) (sn:Z Int),ao.eW p hm f t sn=ao.eW s hm f t sn:=by
 intro f
 induction f with
 |zero=>intro t sn;rfl
 | succ f ih =>
   intro t sn;have e:ao.eW p hm f=ao.eW s hm f:=funext λt=>funext λsn=>ih t sn
   rw[ao.eW,ao.eW,h.cg,e]
theorem ziI(h:Tw s p){i:Int}{x:Slot}(hx:x=s.fO i):p.tH i x=p:=by
 unfold tH;rw[if_pos];rw[h.fO,hx]
 grind
def Qk{S:Nat}(C:xK n S s)(hi:i<n):(s.fO (i:Int)).bound=s.bound (fq (i:Int)):=by
 have cA:i<s.a9.length:=by rw[C.len];exact hi
 have e:=Jt (s:=s) (t:=fq (i:Int)) rfl (by show s.cg (i:Int)=some s.a9[i];rw[fj];exact ax cA);rw[oP cA,e]
end
section
variable {S:Nat}
def zro(C:xK n S s){x:G}(hx:ic n S x)(hk:x.kind=1):s.nH x=true:=by
 obtain⟨h0,M⟩:=hx.vars x (.self hk);obtain⟨i,hi⟩:=bK h0;have cA:i<s.a9.length:=by rw[C.len];omega
 unfold ao.nH;rw[hi,fj,ax cA,decide_eq_true hk];rfl
def zht{p:ao}(C:xK n S s)(h:Tw s p){x:G}(hx:ic n S x)(hb:s.bound x=false):p.nA x=s.nH x:=by
 unfold nA;rw[h.nH,h.fO]
 cases hh:s.nH x with
 |false=>rfl
 | true =>
   obtain⟨i,hi,e1,zHB,b1,_⟩:=C.slot hx hh hb;rw[zHB,Qk C hi,b1];rfl
end
end ao
def EmbD.J3{D:EmbD}{vs:Z V}(ids:Z Nat)(hk:D.k=ids.length)(hπ:D.π=λi=>ids.getD i 0)(eN:cd ids=true)(cC:ids.all (λx=>Nat.blt x C.n)=true)(ha:D.dq.map (V.cq D.π)=vs)(ho:∀ p∈D.OL,C.H.get (D.π p.1)=some (p.2.cq D.π))
 (oX:D.k'<=D.k+1) (hv:C.H.get C.n=none):D.Fits vs C:=by
 refine⟨ha,λi j hi hj e=>?_,ho,λi hi=>?_,λi hi=>?_⟩
 . rw[hk]at hi hj;rw[hπ]at e;exact CZ eN hi hj e
 . have:i=0:=by omega
   subst this;exact hv
 . rw[hk]at hi;rw[hπ];simp only;rw[fS hi];exact gz.1 (aj.1 cC _ (az hi))
def zLk(r:Nat)(tr:Z Change)(g:Y Nat):V:=match g with
 |none=>.sl (tr.map bW) true
 |some g=>.own r g 0 tr.length none
def zMR(tr:Z Change)(g:Nat):Obj:=.arr 10 g (tr.map bW) false false true
def zLj(r:Nat)(tr:Z Change)(g:Y Nat):Z (Nat×Obj):=match g with
 |none=>[]
 |some g=>[(r,zMR tr g)]
def zLK(sl:Z Slot):Obj:=.arr 8 0 (sl.map dG) false false true
def uB(sl:Z Slot)(tr:Z Change)(g:Y Nat)(r:Nat):Obj:=.arr 2 0 [[.own 2 0 0 sl.length none,zLk r tr g]] true false false
def zCg (C:HS) (v:V):Y (Nat×Z Slot):=match v with
 | .own c 0 0 n none=>W (C.H.get c) λo=>(match o with
   |.arr 8 0 es false false true=>gd (Nat.beq n (dA es)) (W (eT es:Y (Z Slot)) λsl=>some (c,sl))
   |_=>none)
 |_=>none
def zB4 (C:HS) (v:V):Y (Nat×Z Change×Y Nat):=match v with
 |.sl es true=>W (eT es:Y (Z Change)) λtr=>some (0,tr,none)
 | .own d g 0 n none=>W (C.H.get d) λo=>(match o with
   |.arr 10 g' es false false true=>gd (et (Nat.beq g' g) (Nat.beq n (dA es))) (W (eT es:Y (Z Change)) λtr=>some (d,tr,some g))
   |_=>none)
 |_=>none
def zy1(g:Y Nat)(d:Nat):Z Nat:=match g with
 |none=>[]
 |some _=>[d]
def uK(g:Y Nat)(k:Nat):Nat:=match g with
 |none=>k
 |some _=>k+1
def WW(v:V):Y Nat:=match v with
 |.ptr b 0 0=>some b
 |_=>none
def zja{v:V}{b:Nat}(h:WW v=some b):v=.ptr b 0 0:=by
 unfold WW at h;split at h
 . cases h;rfl
 . cases h
@[simp] def zGe {b:Nat}:WW (.ptr b 0 0)=some b:=(rfl)
def zCf(o:Obj):Y (V×V):=match o with
 |.arr 2 0 [[x,y]] true false false=>some (x,y)
 |_=>none
def M3{args:Z V}(ha:cu args=true)(π:Nat->Nat):args.map (V.cq π)=args :=
 (gm (g:=id) λv hv=>V.jw (V.dU (jM ha v hv))).trans (by simp)
def aH.auto{v v1:V}(hv:v1.tJ (cr OL)=true/\v=v1.cq (J.auto k [(0,v1)] OL (PT.leaf.set 0 v) C.H):=by simp)
 (hH:∀ p∈OL,p.2.in (cr OL)=true/\C.H.get (J.auto k [(0,v1)] OL (PT.leaf.set 0 v) C.H p.1)=some (p.2.cq (J.auto k [(0,v1)] OL (PT.leaf.set 0 v) C.H)):=by simp)
 (hi:cd (OL.map λp=>J.auto k [(0,v1)] OL (PT.leaf.set 0 v) C.H p.1)=true:=by first|rfl|(simp;done)) (hk:(List.range k).all (λi=>Nat.beq (J.auto k [(0,v1)] OL (PT.leaf.set 0 v) C.H i) i&&cr OL i)=true:=by first|rfl|(simp;done)|(simp<;>(intro x hx;first|omega|exact⟨.inl hx,by omega⟩))):aH k v1 OL v C :=
 aH.Za _ hi hk hv hH
@[simp] def zua:xO []=.tuple []:=(rfl)
@[simp] def zuq:xS []=some []:=(rfl)
def vZ(k:Nat)(v0:V)(OL:Z (Nat×Obj))(v:V)(C:HS):Prop:=∃ a b q,v=.tuple [a,b]/\ng a C=some q/\aH k v0 OL (.tuple [gX q.1,b]) q.2
theorem zFe{s:Start}{K:V->HS->Prop}{v0:V}(hK:∀ v C,K v C->aH k v0 OL v C\/vZ k v0 OL v C){w:World}(h:Hr I P s K e w):Hr I P s (aH k v0 OL) e w:=by
 cases e with
 |panicked c=>exact h
 |outgrown=>exact h
 | returned x =>
   obtain⟨v,a8,F',μ',q,hL,hR,hD,hx⟩:=h;rcases hK _ _ q with h|⟨a,b,p,rfl,hp,hg⟩
   . exact⟨v,a8,F',μ',h,hL,hR,hD,hx⟩
   . obtain⟨ys,rfl,b8,hc⟩:=dV.qx I hx;obtain⟨F2,R2,f2,_,P2⟩:=zC hR (hc 0 a rfl) hp;refine⟨.tuple [gX p.1,b],p.2,F2,μ',hg,hL.step f2,R2,λid g hg=>(oQ hp).hm id (hD id g hg),.tuple _ ys b8 λi v hi=>?_⟩;rcases i with _|_|i
     . cases hi;exact .pure P2.norm
     . cases hi;exact f2.rep hR (hc 1 b rfl)
     . simp at hi
theorem vZ.bw{v0 a b:V}(hi:cd (OL.map λp=>p.1)=true:=by rfl)(hk:(List.range k).all (λi=>cr OL i)=true:=by rfl)(dt:ok (kP C a) λa'=>V.tuple [gX a',b]=v0/\v0.tJ (cr OL)=true:=by simp[kP])
 (hH:∀ p∈OL,p.2.in (cr OL)=true/\(a.cells.any (pC p.1))=false/\C.H.get p.1=some p.2:=by simp[pC]):vZ k v0 OL (.tuple [a,b]) C:=by
 obtain⟨a',ha,rfl,hv⟩:=dt;refine⟨a,b,(a',mr C a.cells),rfl,by simp only[ng,ha];rfl,aH.fu hi hk hv λp hp=>?_⟩;obtain⟨M,O,h3⟩:=hH p hp;exact⟨M,by rw[Jd O];exact h3⟩
section
variable {fn:Func}{vs:Z V}{T:PT V}{r:V}{c c':Z V}
theorem zrm{K:V->HS->Prop}(hρ:Good I)(aq:bH I E)(hP:E.P.follows .mixedOrders=true)(hN:vK E.P)(hf:E.P.funcs[f]?=some fn)(hb:fn.body.bind aU=some sc)(he:jE fn.ntmps (.ptr 0 0 0::vs) 0 .leaf=some T)(hp:cu vs=true)
 (hc:c.all V.bM=true) (vf:c'.all V.bM=true) (hr:r.tJ (λ_=>false)=true)
 (h:Wp I E 1 fn.ntmps sc T { H:=dW [(0,box c)],n:=1,log:=[] } (Leaves E.P fn K)) (hK:∀ v C,K v C->aH 1 r [(0,box c')] v C\/BG 1 r [(0,box c')] v C)  {id:Nat} (hid:id<C.n) (hg:C.H.get id=some (box c)):aT I E.P f (.ptr id 0 0::vs) C r (C.wr id (box c')):=by
 have zn3:∀ (π:Nat->Nat) (c:Z V),c.all V.bM=true->(box c).cq π=box c:=by
  intro π c hc;show Obj.arr _ _ [c.map (V.jl π)] _ _ _=_;rw[map_id' λv hv=>V.jP (aj.1 hc v hv)];rfl
 have Ph:∀ (A:Nat->Bool) (c:Z V),c.all V.bM=true->(box c).in A=true:=by
  intro A c hc;show ([c].all λe=>e.all λv=>v.zM A)=true;simp only[iW,rz,fM];exact aj.2 λv hv=>V.zL (aj.1 hc v hv)
 have rn:=jM hp
 have key:=ZF (k:=1) (k':=1) (OL:=[(0,box c)]) (cI:=[(0,box c')]) (v0:=r) (dq:=.ptr 0 0 0::vs) hf hb he (DF hρ aq hP hN h) hK rfl rfl (af _)
  (λp hp=>by simp only[ay]at hp;subst hp;exact Ph _ _ hc)
  (λp hp=>by simp only[ay]at hp;subst hp;exact⟨Ph _ _ vf,rfl⟩)
  (V.AO (λ_ h=>by cases h) hr)
  (λv hv=>by
    rcases aB.1 hv with rfl|hv
    . rfl
    . exact V.dU (rn v hv))
  (C:=C) (π:=λ_=>id) (λi j hi hj _=>by omega) (λp hp=>by simp only[ay]at hp;subst hp;rw[zn3 _ _ hc];exact hg) (λi hi=>absurd hi (by omega)) (λ_ _=>hid)
 rw[V.jw hr]at key
 have e1:(V.ptr 0 0 0::vs).map (V.cq λ_=>id)=.ptr id 0 0::vs:=by
  rw[aR,map_id' λv hv=>V.jw (V.dU (rn v hv))];rfl
 rw[e1]at key
 have e2:Dn C 1 1 (λ_=>id) [(0,box c')]=C.wr id (box c'):=by
  show ({ H:=(C.H.set (news C.n 1 (λ_=>id) 0) ((box c').cq _)),n:=C.n+0,log:=[news C.n 1 (λ_=>id) 0]++C.log }:HS)=_;rw[zn3 _ _ vf];rfl
 grind
end
@[simp] def zzW :Kl n []=false:=(rfl)
@[simp] def zwY  :Kl n (x::l)=(decide (n=x)||Kl n l):=by
  show bi (Nat.beq n x) true (Kl n l)=_;rw[dF];by_cases h:n=x
  . simp[h]
  . simp[h]
def zev:meet (x::l) m=(Kl x m||meet l m):=by
 show bi (Kl x m) true (meet l m)=_;cases Kl x m<;>rfl
@[simp] def zGD {y z:Nat} :meet [x] (y::z::m)=Kl x (y::z::m):=by rw[zev];simp
namespace ao
structure kB(s s':ao)(m:Nat):Prop where
 len:s'.a9.length=s.a9.length
 b7:∃ ex,s'.b7=s.b7++ex/\ex.length<=m
theorem kB.refl(s:ao)(m:Nat):kB s s m:=⟨rfl,[],by simp,aW _⟩
def kB.trans{a b c:ao}{m:Nat}(h:kB a b m)(k:kB b c n):kB a c (m+n):=by
 obtain⟨x,M,O⟩:=h.b7;obtain⟨y,h3,h4⟩:=k.b7;exact⟨k.len.trans h.len,x++y,by rw[h3,M,gu],by simp;omega⟩
theorem kB.eq{s':ao}{m:Nat}(h:kB s s' m):s'=⟨s'.a9,s.b7++s'.b7.drop s.b7.length⟩:=by
 obtain⟨x,M,_⟩:=h.b7
 cases s' with
 | mk sl tr =>
   grind
def zor(s:ao)(i:Int)(x:Slot):kB s (s.set i x).1 1:=by
 unfold ao.set
 cases s.cg i with
 |none=>exact .refl _ _
 |some o=>exact⟨by simp,[⟨i,o,false⟩],rfl,af _⟩
def xC(s:ao)(i:Int)(x:Slot):kB s (s.tH i x) 1:=by
 unfold tH;split
 . exact .refl _ _
 . exact zor ..
def zQ(s:ao)(i:Int)(t:G):kB s (s.qN i t) 1:=xC ..
theorem Xj(s:ao)(a b:G):kB s (s.vD a b) 2:=by
 unfold vD;split
 . exact(xC ..).trans (zQ ..)
 . exact(xC ..).trans (zQ ..)
def zos(home:Int)(s:ao)(v:Int):kB s (Dc home s v) 1:=by
 unfold Dc;split
 . exact xC ..
 . exact .refl _ _
def zj1(home:Int):∀ (l:Z Int) (s:ao),kB s (l.foldl (Dc home) s) l.length:=by
 intro l
 induction l with
 |nil=>intro s;exact .refl _ _
 | cons v l ih =>
   intro s;rw[fQ,aX,mZ];exact(zos home s v).trans (ih _)
theorem FC(s:ao)(v:Int)(t:G):kB s (s.pU v t).1 ((nR s [t]).length+1):=by
 unfold pU;split
 . exact .refl _ _
 split
 . exact .refl _ _
 split
 . exact .refl _ _
 exact(zj1 _ _ _).trans (zQ ..)
end ao
def aH.zFg{v v0:V}(hn:gX v=v0)(hv:v.tJ (cr OL)=true/\v=v.cq (J.auto k [(0,v)] OL (PT.leaf.set 0 v) C.H))
 (hH:∀ p∈OL,p.2.in (cr OL)=true/\C.H.get (J.auto k [(0,v)] OL (PT.leaf.set 0 v) C.H p.1)=some (p.2.cq (J.auto k [(0,v)] OL (PT.leaf.set 0 v) C.H)))
 (hi:cd (OL.map λp=>J.auto k [(0,v)] OL (PT.leaf.set 0 v) C.H p.1)=true) (hk:(List.range k).all (λi=>Nat.beq (J.auto k [(0,v)] OL (PT.leaf.set 0 v) C.H i) i&&cr OL i)=true):aH k v0 OL v C :=
 aH.lit _ hi hk hn hv hH
def I2:Z V:=[.int .i64 0,.str [],.int .i64 0,.int .i64 0,.aE,.int .i64 0,.str [],.int .i64 0,.int .i64 0,.aE]
theorem zmg(hi:i=L.length):(L.map cZ++List.replicate (n+1) I2)[i]?=some I2:=by
 grind
def zrq(hi:i=L.length):(L.map cZ++List.replicate (n+1) I2).set i (cZ y)=(L++[y]).map cZ++List.replicate n I2:=by
 subst hi;rw[pq _ _ (by simp),aL,lh,dz,gu];rfl
def YF(L:Z bQ)(k:Nat):Obj:=.arr 10 0 (L.map cZ++List.replicate k I2) true false true
def Q7(l m:Z G):Z bQ:=List.zipWith (λx y=>(⟨x,y⟩:bQ)) l m
theorem zh1{l m:Z G}(M:i<l.length)(O:i<m.length):(Q7 l m).take (i+1)=(Q7 l m).take i++[⟨l[i],m[i]⟩]:=by
 grind [Q7,List.take_add_one,List.getElem?_eq_getElem]
def Sq{l m:Z G}(h:l.length=m.length):(Q7 l m).length=l.length:=by unfold Q7;simp[h]
namespace ao
def E9(d:Nat)(s:ao)(a b:G):Prop:=s.ll/\a.ok=true/\b.ok=true/\s.b7.length<=3900 /\
 ∀ v t:G,(v=s.w a/\t=s.w b)\/(v=s.w b/\t=s.w a)->s.nA v=true->tO s [t]/\(nR s [t]).length<=1000/\(eW ⟨s.a9,[]⟩ (s.fO v.id).home d t []).isSome=true
theorem NA(h:nA ⟨sl,tr⟩ t=true):t.kind=1/\∃ i:Nat,t.id=(i:Int)/\∃ hi:i<sl.length,fO ⟨sl,tr⟩ t.id=sl[i]:=by
 unfold nA nH at h;rw[aQ,aQ]at h;obtain⟨m,hm⟩:=bN.1 h.1.2;obtain⟨q,u3,hq,lR⟩:=ft hm
 grind [oP]
def jq(d:Nat):Nat->ao->Z bQ->Y (ao×Int)
 | 0,_,_=>none
 |_+1,s,[]=>some (s,0)
 |f+1,s,e::l=>open Classical in if E9 d s e.left e.right/\l.length<=7000/\(s.je e.left e.right).1.length<=1000 then (if (s.je e.left e.right).2.1=0 then jq d f (s.je e.left e.right).2.2 ((s.je e.left e.right).1++l)else some ((s.je e.left e.right).2.2,(s.je e.left e.right).2.1))else none
end ao
def zji{A B:Z α}{x y:α}(hn:n=A.length):kI (A++x::B) n [y]=A++y::B:=by
 subst hn
 induction A with
 |nil=>cases B<;>rfl
 |cons a A ih=>rw[eU,aX,zei,ih];rfl
def P0(HF:Z (Nat×Obj))(l:Z bQ)(H:PT Obj):Prop:=(∀ p∈HF,H.get p.1=some p.2)/\∃ (Qn gen:Nat) (cap:Y Nat) (rows:Z bQ) (x:Bool),5<=Qn/\Qn≠6/\Qn≠7 /\
 H.get 4=some (jm (.own Qn gen 0 l.length cap))/\H.get Qn=some (.arr 10 gen (rows.map cZ) x false true)/\rows.take l.length=l.reverse/\l.length<=rows.length/\∀ c,cap=some c->c=rows.length
def zOp(HF:Z (Nat×Obj))(l:Z bQ)(e:Z V)(T:PT V)(H:PT Obj)(n:Nat):Prop :=
 P0 HF l H/\T.get 8=some (.ptr 4 0 0)/\∃ id,T.get 13=some (.ptr id 0 0)/\7<id/\id<n/\H.get id=some (box e)
def zhP(wv:∀ p∈HF,p.1≠7){l:Z bQ}(h:P0 HF l H):P0 HF l (H.set 7 o):=by
 obtain⟨M,Qn,gen,cap,rows,x,O,h3,h4,h5,h6,h7⟩:=h;exact⟨λp hp=>by rw[PT.cK,if_neg (λe=>wv p hp e)];exact M p hp,Qn,gen,cap,rows,x,O,h3,h4,by rw[PT.cK,if_neg (by omega)];exact h5,by rw[PT.cK,if_neg h4];exact h6,h7⟩
theorem zps{l:Z bQ}(hv:H.get n=none){o2:Obj}(h:P0 HF l H):P0 HF l ((H.set n o).set n o2):=by
 obtain⟨M,Qn,gen,cap,rows,x,O,h3,h4,h5,h6,h7⟩:=h
 have key:∀ (i:Nat) (q:Obj),H.get i=some q->((H.set n o).set n o2).get i=some q:=λi q hq=>by
  have:i≠n:=λe=>by rw[e,hv]at hq;cases hq
  simp_all
 exact⟨λp hp=>key _ _ (M p hp),Qn,gen,cap,rows,x,O,h3,h4,key _ _ h5,key _ _ h6,h7⟩
theorem V.znX{a:V}(h:a.pure=true):a.zM A=true:=by
 have h3:=V.dU (A:=A) h;cases a<;>first|exact h3|cases h
def KG(v:V):Bool:=match v with
 |.tuple [a,b]=>et a.pure b.pure
 |_=>false
@[simp] def zGp {a b:V}:KG (.tuple [a,b])=et a.pure b.pure:=(rfl)
theorem WY{v:V}(h:KG v=true):∃ a b,v=.tuple [a,b]/\a.pure=true/\b.pure=true:=by
 unfold KG at h
 grind [dx]
theorem zjf{v:V}(h:KG v=true):v.tJ A=true:=by
 obtain⟨a,b,rfl,ha,hb⟩:=WY h;show ([a,b].all (V.zM A))=true
 grind [V.znX,Bool.and_self]
theorem aT.zws{cm:HS}{vs:Z V}{v:V}(h:aT I P f vs C v cm)(hv:KG v=true)(eL:∀ id o,C.H.get id=some o->cm.H.get id=some o)
 (bc:∀ id,id<C.n->C.H.get id=none->cm.H.get id=none):aT I P f vs C v C:=by
 obtain⟨a,b,rfl,ha,hb⟩:=WY hv;intro X w F μ xs hR hD hO hA;have Nw:pj X cm:=λid hx=>bc id (jK λhle=>hD.2 id hle hx) (hO id hx)
 refine CallsIn.mono (h X w F μ xs hR hD Nw hA) λe w' he=>?_
 cases e with
 | returned x =>
   obtain⟨F1,μ1,g1,g2,g3⟩:=he;obtain⟨ys,rfl,b8,hc⟩:=dV.qx I g2
   refine⟨F1,μ,⟨λid g m hm=>bY (hR.lt id g m hm) g3.size,g1.Bj,λid o ho=>?_,hR.inj,hR.y7,g1.gl⟩,.tuple _ ys b8 λi v hi=>?_,
    ⟨g3.io,g3.size,g3.bw,g3.fm,g3.Ci,λ_ _ _ hm=>hm,λb hb=>.inl hb,λ_ hh=>hh,λ_ _ _=>rfl,λ_ _ hh=>hh,λid g m hm=>.inr ⟨id,g,m,hm,rfl⟩⟩⟩
   . exact(hR.obj id o ho).part (g1.obj id o (eL id o ho)) g3.mm
   . rcases i with _|_|i
     . cases hi;exact .pure (dV.BZ I (hc 0 a rfl) ha)
     . cases hi;exact .pure (dV.BZ I (hc 1 b rfl) hb)
     . simp at hi
 |panicked c=>exact he
 |outgrown=>exact he
end Go.J
set_option maxRecDepth 100000
set_option maxHeartbeats 4000000
namespace Go.J
open bo (enc)
structure nU extends EmbD where
 s:Nat
 cs:List V
 s5:List V
 ds:List V
structure nU.Good(D:nU):Prop where
 ol:D.OL.map Prod.fst=List.range D.k
 zCW:D.cI.map Prod.fst=List.range D.k'
 le:D.k<=D.k'
 Mu:∀ p∈D.OL,p.2.in (cr D.OL)=true
 znU:∀ p∈D.cI,p.2.in (cr D.cI)=true/\p.2.fz=false
 v0:D.v0.tJ (cr D.cI)=true
 dq:∀ v∈D.dq,v.tJ (cr D.OL)=true
 lx:(D.s,Obj.arr D.ds.length 0 [D.cs] true false false)∈D.OL
 GO:(D.s,Obj.arr D.ds.length 0 [D.s5] true false false)∈D.cI
 len:D.cs.length=D.ds.length
 C5:D.s5.length=D.ds.length
 so:wm 0 D.cs=true
 zLH:wm 0 D.s5=true
 same:∀ j:Nat,D.s5[j]?=some (.sym j)->D.cs[j]?=some (.sym j)
 ns:∀ p∈D.OL,p.1≠D.s->p.2.ns=true
 ns':∀ p∈D.cI,p.1≠D.s->p.2.ns=true
 nv:D.v0.ns=true
 na:∀ v∈D.dq,v.ns=true
structure nU.Fits(D:nU)(vs:List V)(C:HS):Prop where
 args:D.dq.map (V.cq D.π)=vs
 inj:∀ i j,i<D.k->j<D.k->D.π i=D.π j->i=j
 obj:∀ p∈D.OL,C.H.get (D.π p.1)=some (mI D.s D.ds D.π p)
 zBH:∀ i,i<D.k'-D.k->C.H.get (C.n+i)=none
 lt:∀ i,i<D.k->D.π i<C.n
 sz:D.ds.length<=gB
 cell:∀ d∈D.ds,d.mM=true
def nU.hp(D:nU)(C:HS):HS:=zv8 D.s D.ds C D.k D.k' D.π D.cI
def nU.vl(D:nU)(C:HS):V:=D.v0.cq (news C.n D.k D.π)
def eY(cJ:Z V->HS->Y nU):Spec:=λvs C=>W (cJ vs C) λD=>some (D.vl C,D.hp C)
@[simp] def zFN {cJ:Z V->HS->Y nU} {vs:Z V} {C:HS} {Q:V×HS->Prop}:Cu (eY cJ vs C) Q=Cu (cJ vs C) λD=>Q (D.vl C,D.hp C):=by
  show ok (eY cJ vs C) Q=ok (cJ vs C) λD=>Q (D.vl C,D.hp C)
  simp only[eY,iQ,dP]
def zis{s:Nat}{ds:Z V}{C:HS}{k k':Nat}{π:Nat->Nat}{cI:Z (Nat×Obj)}:Kept C (zv8 s ds C k k' π cI) where
 log i hi:=l9 _ hi
 obj i o ho hn:=by
  show (xY C.H _).get i=some o
  rw[IJ (λp hp e=>hn (by
   obtain⟨q,hq,rfl⟩:=aI.1 hp
   exact jo _ (aI.2 ⟨q,hq,e⟩)))]
  exact ho
 le:=fE ..
 hm i hi:=WT hi _
theorem Yu{I:Nat->Value}{P:Program}{f:FuncId}{fn:Func}{sc:SC}{T:PT V}{D:nU}(hρ:J.Good I)(hP:P.follows .mixedOrders=true)(hN:vK P)(hf:P.funcs[f]?=some fn)(hb:fn.body.bind aU=some sc)(he:jE fn.ntmps D.dq 0 .leaf=some T)
 (hg:D.Good) (h:∀ ρ',J.Good ρ'->∃ E,E.P=P/\bH ρ' E/\Wp ρ' E D.k fn.ntmps sc T { H:=dW D.OL,n:=D.k,log:=[] } (Leaves P fn (aH D.k D.v0 D.cI))) {vs:Z V} {C:HS} (b4:D.Fits vs C) :
 aT I P f vs C (D.vl C) (D.hp C):=by
 rw[<- b4.args];refine zgt (s:=D.s) (sz:=D.ds.length) (cs:=D.cs) (s5:=D.s5) (ds:=D.ds) hρ hf hb he (λρ' fF=>?_) hg.ol hg.zCW hg.le hg.Mu hg.znU hg.v0 hg.dq hg.lx hg.GO hg.len hg.C5 b4.sz hg.so hg.zLH b4.cell hg.same hg.ns hg.ns' hg.nv hg.na b4.inj b4.obj b4.zBH b4.lt
 grind [DF]
theorem SY{I:Nat->Value}{P:Program}{f:FuncId}{fn:Func}{sc:SC}{T:PT V}{D:nU}{KK:V->HS->Prop}(hρ:J.Good I)(hP:P.follows .mixedOrders=true)(hN:vK P)(hf:P.funcs[f]?=some fn)(hb:fn.body.bind aU=some sc)(he:jE fn.ntmps D.dq 0 .leaf=some T)
 (hg:D.Good) (h:∀ ρ',J.Good ρ'->∃ E,E.P=P/\bH ρ' E/\Wp ρ' E D.k fn.ntmps sc T { H:=dW D.OL,n:=D.k,log:=[] } (Leaves P fn KK)) (hKK:∀ v C,KK v C->aH D.k D.v0 D.cI v C\/vZ D.k D.v0 D.cI v C) {vs:Z V} {C:HS} (b4:D.Fits vs C) :
 aT I P f vs C (D.vl C) (D.hp C):=by
 rw[<- b4.args];refine zgt (s:=D.s) (sz:=D.ds.length) (cs:=D.cs) (s5:=D.s5) (ds:=D.ds) hρ hf hb he (λρ' fF=>?_) hg.ol hg.zCW hg.le hg.Mu hg.znU hg.v0 hg.dq hg.lx hg.GO hg.len hg.C5 b4.sz hg.so hg.zLH b4.cell hg.same hg.ns hg.ns' hg.nv hg.na b4.inj b4.obj b4.zBH b4.lt
 grind [zFe,DF]
def Valid.sym{I:Nat->Value}{P:Program}{f:Nat}{cJ:Z V->HS->Y nU}(hf:wh P f)(h:∀ vs C D,cJ vs C=some D->aT I P f vs C (D.vl C) (D.hp C)):Valid I P f (eY cJ) where
 fn:=hf
 ok:=by
  intro vs C v a8 hq;simp only[eY,aA]at hq;obtain⟨D,hD,hq⟩:=hq;cases hq;exact h _ _ _ hD
 kept:=by
  intro vs C q hq;simp only[eY,aA]at hq;obtain⟨D,hD,hq⟩:=hq;cases hq;exact zis
def w5(cJ:Z V->HS->Y nU):Spec:=λvs C=>W (cJ vs C) λD=>gd (KG D.v0) (some (D.v0,C))
theorem zmn {I:Nat->Value} {P:Program} {f:FuncId} {fn:Func} {sc:SC} {T:PT V} {D:nU} (hρ:J.Good I) (hP:P.follows .mixedOrders=true) (hN:vK P) (hf:P.funcs[f]?=some fn) (hb:fn.body.bind aU=some sc) (he:jE fn.ntmps D.dq 0 .leaf=some T)
 (hg:D.Good) (ho:D.cI=D.OL) (hr:KG D.v0=true) (h:∀ ρ',J.Good ρ'->∃ E,E.P=P/\bH ρ' E/\Wp ρ' E D.k fn.ntmps sc T { H:=dW D.OL,n:=D.k,log:=[] } (Leaves P fn (aH D.k D.v0 D.cI))) {vs:Z V} {C:HS} (b4:D.Fits vs C) :
 aT I P f vs C D.v0 C:=by
 have key:=Yu hρ hP hN hf hb he hg h b4;rw[show D.vl C=D.v0 from V.jw (zjf hr)]at key
 have cC:∀ i,cr D.OL i=true->i<D.k:=by
  intro i hi;obtain⟨q,hq,Ok⟩:=di.1 hi;rw[beq_true]at Ok;exact dB.1 (by rw[<- hg.ol];exact aI.2 ⟨q,hq,Ok⟩)
 have gO:∀ id,(D.hp C).H.get id=C.H.get id:=by
  intro id;refine D9 (λp hp=>?_) id;obtain⟨p0,pL,rfl⟩:=aI.1 hp;have Bx:p0∈D.OL:=by rw[<- ho];exact pL
  have h0:p0.1<D.k:=cC _ (di.2 ⟨p0,Bx,beq_true.2 rfl⟩);show C.H.get (news C.n D.k D.π p0.1)=some (mI D.s D.ds (news C.n D.k D.π) p0);rw[show news C.n D.k D.π p0.1=D.π p0.1 from if_pos h0,b4.obj p0 Bx];refine congrArg some ?_;have hc:=Obj.OP (A:=cr D.OL) (π:=news C.n D.k D.π) (σ:=D.π) (λi hi=>if_pos (cC i hi)) (hg.Mu p0 Bx);unfold mI;split
  . rename_i e
    have e2:p0.2=Obj.arr D.ds.length 0 [D.cs] true false false:=by
     have eN:(D.OL.map Prod.fst).Nodup:=by rw[hg.ol];exact iq
     have e3:=vS eN Bx;have e4:=vS eN hg.lx
     grind
    rw[e2]at hc ⊢
    have ya:D.cs.map (V.jl (news C.n D.k D.π))=D.cs.map (V.jl D.π):=by
     simp_all
    show Obj.arr _ _ [mix D.π D.cs D.ds] _ _ _=Obj.arr _ _ [mix _ D.cs D.ds] _ _ _;rw[O3 ya]
  grind
 grind [aT.zws,id]
def Valid.w5{I:Nat->Value}{P:Program}{f:Nat}{cJ:Z V->HS->Y nU}(hf:wh P f)(h:∀ vs C D,cJ vs C=some D->KG D.v0=true->aT I P f vs C D.v0 C):Valid I P f (w5 cJ) where
 fn:=hf
 ok:=by
  intro vs C v a8 hq;simp only[J.w5,aA,bE]at hq;obtain⟨D,hD,hp,hq⟩:=hq;cases hq;exact h _ _ _ hD hp
 kept:=by
  intro vs C q hq;simp only[J.w5,aA,bE]at hq;obtain⟨D,hD,hp,hq⟩:=hq;cases hq;exact .refl _
@[simp] def zIE {cJ:Z V->HS->Y nU} {vs:Z V} {C:HS} {Q:V×HS->Prop}:Cu (J.w5 cJ vs C) Q=Cu (cJ vs C) λD=>KG D.v0=true/\Q (D.v0,C):=by
  show ok (J.w5 cJ vs C) Q=ok (cJ vs C) λD=>KG D.v0=true/\Q (D.v0,C)
  simp only[J.w5,iQ,wz,dP]
end Go.J
set_option maxHeartbeats 1000000
namespace Go.J
open bo (enc)
structure MG where
 a:Nat
 b:Nat
 n:Nat
 hn:n<=1000
def MG.add(g:MG)(m:Nat):MG:=⟨g.a,g.b+m,g.n,g.hn⟩
@[simp] def MG.zMB {a b n m:Nat} {h:n<=1000}:MG.add ⟨a,b,n,h⟩ m=⟨a,b+m,n,h⟩:=(rfl)
@[simp] def zw4 {k:Nat}:(V.sym k).mM=true:=(rfl)
@[simp] def MG.add_zero {g:MG}:g.add 0=g:=(rfl)
def MG.add_add{g:MG}{m n:Nat}:(g.add m).add n=g.add (m+n):=by
 cases g;simp[eD]
def jS:Nat->Nat->Z V
 |_,0=>[]
 |k,n+1=>.sym k::jS (k+1) n
@[simp] def zaU:∀ {k n:Nat},(jS k n).length=n
  |_,0=>rfl
  |k,n+1=>by rw[jS,aX,zaU]
def MO:∀ {k n:Nat},wm k (jS k n)=true
 |_,0=>rfl
 | k,n+1=>by
   rw[jS,wm,MO,fM,iJ];exact .inl (beq_true.2 rfl)
@[simp] def zdG:∀ {k n:Nat},Jz (jS k n)=true
  |_,0=>rfl
  |k,n+1=>by rw[jS,zkW,zdG];rfl
def Yv{A:Nat->Bool}:∀ {k n:Nat},(jS k n).all (V.zM A)=true
 |_,0=>rfl
 |k,n+1=>by rw[jS,iW,Yv];rfl
theorem Il{π:Nat->Nat}:∀ {k n:Nat} {ds:Z V},ds.length=n->mix π (jS k n) ds=ds
 |_,0,[],_=>rfl
 |_,0,_::_,h=>by cases h
 |_,n+1,[],h=>by cases h
 | k,n+1,d::ds,h=>by
   rw[jS,mix,Il (by simpa using h)]
def mB(i j:Nat)(sl:Z Slot)(tr:Z Change)(g:MG):Obj:=.arr (g.n+3) 0 [.sym 0::.own i g.a 0 sl.length none::.own j g.b 0 tr.length none::jS 3 g.n] true false false
def mC(i j:Nat)(sl:Z Slot)(tr:Z Change)(g:MG):Z V:=.sym 0::.own i g.a 0 sl.length none::.own j g.b 0 tr.length none::jS 3 g.n
def mS(sl:Z Slot)(g:MG):Obj:=.arr 8 g.a (sl.map dG) false false true
def mT(tr:Z Change)(g:MG):Obj:=.arr 10 g.b (tr.map bW) false false true
section
variable {i j:Nat}{sl:Z Slot}{tr:Z Change}{g:MG}{A:Nat->Bool}{π:Nat->Nat}
@[simp] def zNA:mB i j sl tr g=.arr (g.n+3) 0 [.sym 0::.own i g.a 0 sl.length none::.own j g.b 0 tr.length none::jS 3 g.n] true false false:=(rfl)
@[simp] def zNy:mS sl g=.arr 8 g.a (sl.map dG) false false true:=(rfl)
@[simp] def zNx:mT tr g=.arr 10 g.b (tr.map bW) false false true:=(rfl)
theorem rZ:(mS sl g).cq π=mS sl g:=by
 simp_all
theorem rY:(mT tr g).cq π=mT tr g:=by
 simp_all
def Qr:(mS sl g).in A=true:=zea sl
def Qq:(mT tr g).in A=true:=YT tr
theorem zg9(hi:A i=true)(hj:A j=true):(mB i j sl tr g).in A=true:=by
 simp_all [jS,aj,Yv]
def LM:(mC i j sl tr g).length=g.n+3:=by simp[mC]
def Uk:wm 0 (mC i j sl tr g)=true:=by
 simp only[mC,wm,MO,V.ns,Bool.or_true,fM];rfl
theorem Y8{i' j':Nat}{cS:Z Slot}{xI:Z Change}{g':MG}(hn:g'.n=g.n)(k:Nat)(h:(mC i' j' cS xI g')[k]?=some (.sym k)):(mC i j sl tr g)[k]?=some (.sym k):=by
 grind [mC,List.getElem?_cons_succ]
end
mutual
theorem UX:∀ t:G,H7 (au t)=true
 | .mk k n i h l=>by
   have:=Xx l;simp only[au,H7,V.ns,fM,gH];exact this
theorem Xx:∀ l:Z G,vR (r9 l)=true
 | []=>rfl
 | t::l=>by
   rw[r9,vR,UX t,Xx l];rfl
end
def FH(l:Z G):vR (l.map au)=true:=Ca λe he=>by
 obtain⟨t,_,rfl⟩:=aI.1 he;exact UX t
@[simp] def zB2 (t:G):(enc t:V).ns=true:=UX t
theorem Uj{sl:Z Slot}{g:MG}:(mS sl g).ns=true:=Ca λe he=>by
 obtain⟨x,_,rfl⟩:=aI.1 he;simp only[dG,H7,V.ns,FH,fM,gH]
theorem Ui{tr:Z Change}{g:MG}:(mT tr g).ns=true:=Ca λe he=>by
 obtain⟨x,_,rfl⟩:=aI.1 he;simp only[bW,H7,V.ns,FH,fM,gH]
open Classical in
def Rt(o:Obj):Y (V×V×V×{l:Z V // l.length<=1000}):=match o with
 |.arr sz 0 [d::x::y::post] true false false=>gd (et (Nat.beq sz (dA post+3)) (Jz (d::x::y::post))) (if h:post.length<=1000 then some (d,x,y,⟨post,h⟩)else none)
 |_=>none
theorem Ng{o:Obj}{q:V×V×V×{l:Z V // l.length<=1000}}(h:Rt o=some q):o=.arr (q.2.2.2.1.length+3) 0 [q.1::q.2.1::q.2.2.1::q.2.2.2.1] true false false/\∀ c∈q.1::q.2.1::q.2.2.1::q.2.2.2.1,c.mM=true:=by
 unfold Rt at h
 grind [bE,dx,beq_true,dI,NV]
@[simp] theorem zJc {d x y:V} {post:Z V} {n:Nat} (h:post.length<=1000):Rt (.arr n 0 [d::x::y::post] true false false)=gd (et (Nat.beq n (dA post+3)) (Jz (d::x::y::post))) (some (d,x,y,⟨post,h⟩)):=by
  grind [Rt]
def C1 (C:HS) (v:V):Y (Nat×Nat×Z Slot):=match v with
 | .own c g 0 n none=>W (C.H.get c) λo=>(match o with
   |.arr 8 g' es false false true=>gd (et (Nat.beq g' g) (Nat.beq n (dA es))) (W (eT es:Y (Z Slot)) λsl=>some (c,g,sl))
   |_=>none)
 |_=>none
theorem MR{C:HS}{v:V}{q:Nat×Nat×Z Slot}(h:C1 C v=some q):v=.own q.1 q.2.1 0 q.2.2.length none/\C.H.get q.1=some (.arr 8 q.2.1 (q.2.2.map dG) false false true):=by
 unfold C1 at h;split at h
 . simp only[aA]at h;obtain⟨o,ho,h⟩:=h;split at h
   . simp only[bE,aA,dx,beq_true,dI]at h;obtain⟨⟨rfl,rfl⟩,sl,sf,h⟩:=h;cases h;have:=iT sf
     simp_all
   . cases h
 . cases h
def C0 (C:HS) (v:V):Y (Nat×Nat×Z Change):=match v with
 | .own d g 0 n none=>W (C.H.get d) λo=>(match o with
   |.arr 10 g' es false false true=>gd (et (Nat.beq g' g) (Nat.beq n (dA es))) (W (eT es:Y (Z Change)) λtr=>some (d,g,tr))
   |_=>none)
 |_=>none
theorem MH{C:HS}{v:V}{q:Nat×Nat×Z Change}(h:C0 C v=some q):v=.own q.1 q.2.1 0 q.2.2.length none/\C.H.get q.1=some (.arr 10 q.2.1 (q.2.2.map bW) false false true):=by
 unfold C0 at h;split at h
 . simp only[aA]at h;obtain⟨o,ho,h⟩:=h;split at h
   . simp only[bE,aA,dx,beq_true,dI]at h;obtain⟨⟨rfl,rfl⟩,tr,ht,h⟩:=h;cases h;have:=iT ht
     simp_all
   . cases h
 . cases h
def zCi(c g n:Nat)(o:Obj):Y (Nat×Nat×Z Slot):=match o with
 |.arr 8 g' es false false true=>gd (et (Nat.beq g' g) (Nat.beq n (dA es))) (W (eT es:Y (Z Slot)) λsl=>some (c,g,sl))
 |_=>none
@[simp] def zCh {C:HS} {c g n:Nat}:C1 C (.own c g 0 n none)=W (C.H.get c) (zCi c g n):=rfl
@[simp] theorem zIS {c g g' n:Nat} {sl:Z Slot}:zCi c g n (.arr 8 g' (sl.map dG) false false true)=gd (et (Nat.beq g' g) (Nat.beq n sl.length)) (some (c,g,sl)):=by
  show gd (et (Nat.beq g' g) (Nat.beq n (dA (sl.map dG)))) (W (eT (sl.map dG):Y (Z Slot)) λsl=>some (c,g,sl))=_
  simp_all
def zB6(c g n:Nat)(o:Obj):Y (Nat×Nat×Z Change):=match o with
 |.arr 10 g' es false false true=>gd (et (Nat.beq g' g) (Nat.beq n (dA es))) (W (eT es:Y (Z Change)) λsl=>some (c,g,sl))
 |_=>none
@[simp] def zB5 {C:HS} {c g n:Nat}:C0 C (.own c g 0 n none)=W (C.H.get c) (zB6 c g n):=rfl
@[simp] theorem zIx {c g g' n:Nat} {tr:Z Change}:zB6 c g n (.arr 10 g' (tr.map bW) false false true)=gd (et (Nat.beq g' g) (Nat.beq n tr.length)) (some (c,g,tr)):=by
  show gd (et (Nat.beq g' g) (Nat.beq n (dA (tr.map bW)))) (W (eT (tr.map bW):Y (Z Change)) λsl=>some (c,g,sl))=_
  simp_all
def IL(off:Nat)(v:V):Y Nat:=match v with
 |.ptr b 0 o=>gd (Nat.beq o off) (some b)
 |_=>none
theorem JS{off:Nat}{v:V}{b:Nat}(h:IL off v=some b):v=.ptr b 0 off:=by
 unfold IL at h
 grind [bE,beq_true]
@[simp] theorem zGd {b off:Nat}:IL off (.ptr b 0 off)=some b:=by
  show gd (Nat.beq off off) (some b)=_
  simp_all
theorem Ce{s i j:Nat}{d x y:V}{post:Z V}{π:Nat->Nat}{sl:Z Slot}{tr:Z Change}{g:MG}(hn:post.length=g.n):mI s (d::x::y::post) π (s,mB i j sl tr g)=.arr (g.n+3) 0 [d::.own (π i) g.a 0 sl.length none::.own (π j) g.b 0 tr.length none::post] true false false:=by
 show (if s=s then Obj.arr (g.n+3) 0 [d::.own (π i) g.a 0 sl.length none::.own (π j) g.b 0 tr.length none::mix π (jS 3 g.n) post] true false false else _)=_
 grind [Il]
def SU(s:Z V->Y V)(vs:Z V)(C:HS):Y (V×HS):=W (s vs) λv=>some (v,C)
section
variable {I:Nat->Value}{P:Program}
def zek{f:FuncId}{vs:Z V}{C:HS}{v:V}(h:∀ w F μ xs,Mq I w F μ vs xs->Gl I w F->Calls P f xs w λe w'=>∃ x,e=.returned x/\fG I w' (λ_=>False) v x/\Io w w'/\w.heap.size<=w'.heap.size/\∀ b,b<w.heap.size->w'.heap[b]?=w.heap[b]?):aT I P f vs C v C:=by
 intro X w F μ xs hR hD hO hA;refine CallsIn.mono (callsIn_wide.2 (h w F μ xs hA hR.gl)) λe w' he=>?_
 obtain⟨x,rfl,hx,CH,b8,hk⟩:=he;obtain⟨g1,g2⟩:=alone hR CH b8 hk;exact⟨_,μ,g1,.pure (hx.mono I (λ_ h=>h.elim) λ_ h=>h.elim),g2⟩
def Valid.out{f:FuncId}{s:Z V->Y V}(hf:wh P f)(h:∀ vs v,s vs=some v->∀ w F μ xs,Mq I w F μ vs xs->Gl I w F->Calls P f xs w λe w'=>∃ x,e=.returned x/\fG I w' (λ_=>False) v x/\Io w w'/\w.heap.size<=w'.heap.size/\∀ b,b<w.heap.size->w'.heap[b]?=w.heap[b]?):Valid I P f (SU s) where
 fn:=hf
 ok:=by
  intro vs C v a8 hq;simp only[SU,aA]at hq;obtain⟨v',hv,hq⟩:=hq;cases hq;exact zek λw F μ xs=>h vs _ hv w F μ xs
 kept:=by
  intro vs C q hq;simp only[SU,aA]at hq;obtain⟨v',hv,hq⟩:=hq;cases hq;exact Kept.refl _
end
end Go.J
set_option maxHeartbeats 1000000
namespace Go.J
open bo (enc)
def nU.J3{D:nU}{vs:Z V}{C:HS}(ids:Z Nat)(hk:D.k=ids.length)(hπ:D.π=λi=>ids.getD i 0)(eN:cd ids=true)(cC:ids.all (λx=>Nat.blt x C.n)=true)(ha:D.dq.map (V.cq D.π)=vs)(ho:∀ p∈D.OL,C.H.get (D.π p.1)=some (mI D.s D.ds D.π p))
 (oX:D.k'=D.k) (b8:D.ds.length<=gB) (hc:∀ d∈D.ds,d.mM=true):D.Fits vs C:=by
 refine⟨ha,λi j hi hj e=>?_,ho,λi hi=>?_,λi hi=>?_,b8,hc⟩
 . rw[hk]at hi hj;rw[hπ]at e;exact CZ eN hi hj e
 . omega
 . rw[hk]at hi;rw[hπ];simp only;rw[fS hi];exact gz.1 (aj.1 cC _ (az hi))
def fB(sl:Z Slot)(tr:Z Change)(g:MG):Z (Nat×Obj):=[(0,jm (.ptr 1 0 1)),(1,mB 2 3 sl tr g),(2,mS sl g),(3,mT tr g)]
def Hs(args:Z V)(sl cS:Z Slot)(tr xI:Z Change)(g g':MG)(ds:Z V)(r:V)(a b c d:Nat):nU where
 k:=4
 k':=4
 π:=λi=>[a,b,c,d].getD i 0
 OL:=fB sl tr g
 cI:=fB cS xI g'
 dq:=.ptr 0 0 0::args
 v0:=r
 s:=1
 cs:=mC 2 3 sl tr g
 s5:=mC 2 3 cS xI g'
 ds:=ds
def Gi (F:Z Slot->Z Change->Z V->Y (V×Z Slot×Z Change)) (vs:Z V) (C:HS):Y nU:=match vs with
 |.ptr a 0 0::args=>W (C.H.get a) λoa=>W (du oa) λva=>W (IL 1 va) λb=>W (C.H.get b) λo=>W (Rt o) λq=>W (C1 C q.2.1) λs=>W (C0 C q.2.2.1) λt=>W (F s.2.2 t.2.2 args) λr =>
  gd (et (cd [a,b,s.1,t.1]) (et ([a,b,s.1,t.1].all λx=>Nat.blt x C.n) (et (cu args) (et (H7 args) (et (r.1.tJ λ_=>false) r.1.ns)))))
   (some (Hs args s.2.2 r.2.1 t.2.2 (t.2.2++r.2.2) ⟨s.2.1,t.2.1,q.2.2.2.1.length,q.2.2.2.2⟩ ⟨s.2.1,t.2.1+r.2.2.length,q.2.2.2.1.length,q.2.2.2.2⟩ (q.1::q.2.1::q.2.2.1::q.2.2.2.1) r.1 a b s.1 t.1))
 |_=>none
def zgW{sl:Z Slot}{tr:Z Change}{g:MG}:∀ p∈fB sl tr g,p.2.in (cr (fB sl tr g))=true/\p.2.fz=false:=by
 intro p hp
 have hd:∀ i,i<4->cr (fB sl tr g) i=true:=λi hi=>by
  rcases(show i=0\/i=1\/i=2\/i=3 by omega)with rfl|rfl|rfl|rfl<;>rfl
 simp only[fB,aB,aS,or_false]at hp;rcases hp with rfl|rfl|rfl|rfl
 . exact⟨rfl,rfl⟩
 . exact⟨zg9 (hd 2 (by omega)) (hd 3 (by omega)),rfl⟩
 . exact⟨Qr,rfl⟩
 . exact⟨Qq,rfl⟩
def zgV{sl:Z Slot}{tr:Z Change}{g:MG}:∀ p∈fB sl tr g,p.1≠1->p.2.ns=true:=by
 intro p hp cb;simp only[fB,aB,aS,or_false]at hp;rcases hp with rfl|rfl|rfl|rfl
 . rfl
 . exact absurd rfl cb
 . exact Uj
 . exact Ui
def znw{args:Z V}{sl cS:Z Slot}{tr xI:Z Change}{g g':MG}{ds:Z V}{r:V}{a b c d:Nat}(Ek:ds.length=g.n+3)(hg:g'.n=g.n)(ha:cu args=true)(hn:H7 args=true)(hr:(r.tJ λ_=>false)=true)(hrn:r.ns=true):(Hs args sl cS tr xI g g' ds r a b c d).Good:=by
 refine⟨rfl,rfl,af _,λp hp=>(zgW p hp).1,zgW,V.AO (λ_ h=>by cases h) hr,?_,?_,?_,LM.trans Ek.symm,(LM.trans (by rw[hg])).trans Ek.symm,Uk,Uk,Y8 hg,zgV,zgV,hrn,?_⟩
 . intro v hv;rcases aB.1 hv with rfl|hv
   . rfl
   . exact V.dU (jM ha v hv)
 . show (1,Obj.arr ds.length 0 [mC 2 3 sl tr g] true false false)∈fB sl tr g;rw[Ek];exact aF _ (aD ..)
 . show (1,Obj.arr ds.length 0 [mC 2 3 cS xI g'] true false false)∈fB cS xI g';rw[Ek,<- hg];exact aF _ (aD ..)
 . intro v hv;rcases aB.1 hv with rfl|hv
   . rfl
   . exact wP hn v hv
def JU {F:Z Slot->Z Change->Z V->Y (V×Z Slot×Z Change)} {vs:Z V} {C:HS} {D:nU} (h:Gi F vs C=some D) :
 ∃ args sl tr g r cS ex ds a b c d,F sl tr args=some (r,cS,ex)/\D=Hs args sl cS tr (tr++ex) g (g.add ex.length) ds r a b c d/\cu args=true/\(r.tJ λ_=>false)=true/\D.Good/\D.Fits vs C:=by
 unfold Gi at h;split at h
 . rename_i a args;simp only[aA,bE,dx]at h;obtain⟨oa,HJ,va,Kx,b,hb,o,ho,q,hq,s,cm,t,ht,⟨r,cS,ex⟩,hr,⟨M,O,h3,h4,h5,h6⟩,h⟩:=h;cases h;have e1:=uD Kx;have e2:=JS hb;obtain⟨e3,e7⟩:=Ng hq;obtain⟨e4,g4⟩:=MR cm;obtain⟨e5,g5⟩:=MH ht;obtain⟨c,ga,sl⟩:=s;obtain⟨d,gb,tr⟩:=t;obtain⟨x,y,z,post,dg⟩:=q;simp only[dI]at e4 e5 g4 g5 M O hr h5 h6 e3 e7 ⊢;subst e4 e5 e2 e1 e3;refine⟨args,sl,tr,⟨ga,gb,post.length,dg⟩,r,cS,ex,_,a,b,c,d,hr,rfl,h3,h5,znw rfl rfl h3 h4 h5 h6,?_⟩;refine nU.J3 [a,b,c,d] rfl rfl M O ?_ ?_ rfl ?_ e7
   . show (V.ptr 0 0 0::args).map (V.cq _)=_;rw[aR,M3 h3];rfl
   . intro p hp;simp only[Hs,fB,aB,aS,or_false]at hp;rcases hp with rfl|rfl|rfl|rfl
     . exact HJ
     . show C.H.get b=_;rw[ho];exact congrArg some (Ce (s:=1) (i:=2) (j:=3) (π:=λi=>[a,b,c,d].getD i 0) (sl:=sl) (tr:=tr) (g:=⟨ga,gb,post.length,dg⟩) rfl).symm
     . show C.H.get c=_;rw[g4];exact congrArg some (rZ (sl:=sl) (g:=⟨ga,gb,post.length,dg⟩) (π:=λi=>[a,b,c,d].getD i 0)).symm
     . show C.H.get d=_;rw[g5];exact congrArg some (rY (tr:=tr) (g:=⟨ga,gb,post.length,dg⟩) (π:=λi=>[a,b,c,d].getD i 0)).symm
   . show post.length+3<=1000000;omega
 . cases h
section
variable {F:Z Slot->Z Change->Z V->Y (V×Z Slot×Z Change)}{args:Z V}{sl cS:Z Slot}{tr xI:Z Change}{r x y z:V}{a b c d ga gb Bi Bh n:Nat}{hh:n<=1000}{C:HS}{ds post:Z V}{g g':MG}
@[simp] def zLX:Gi F (.ptr a 0 0::args) C=W (C.H.get a) fun oa=>W (du oa) fun va=>W (IL 1 va) fun b=>W (C.H.get b) fun o=>W (Rt o) fun q=>W (C1 C q.2.1) fun s=>W (C0 C q.2.2.1) fun t=>W (F s.2.2 t.2.2 args) fun r =>
      gd (et (cd [a,b,s.1,t.1]) (et ([a,b,s.1,t.1].all λx=>Nat.blt x C.n) (et (cu args) (et (H7 args) (et (r.1.tJ λ_=>false) r.1.ns)))))
       (some (Hs args s.2.2 r.2.1 t.2.2 (t.2.2++r.2.2) ⟨s.2.1,t.2.1,q.2.2.2.1.length,q.2.2.2.2⟩ ⟨s.2.1,t.2.1+r.2.2.length,q.2.2.2.1.length,q.2.2.2.2⟩ (q.1::q.2.1::q.2.2.1::q.2.2.2.1) r.1 a b s.1 t.1)):=(rfl)
@[simp] def zJa:(Hs args sl cS tr xI g g' ds r a b c d).v0=r:=(rfl)
@[simp] def zDh:(Hs args sl cS tr xI g g' ds (.tuple []) a b c d).vl C=.tuple []:=(rfl)
@[simp] def zDj {e:Int}:(Hs args sl cS tr xI g g' ds (.int .i64 e) a b c d).vl C=.int .i64 e:=(rfl)
@[simp] def zDi {L:Z (Z V)} {t:Bool} {e:Int}:(Hs args sl cS tr xI g g' ds (.tuple [.sl L t,.int .i64 e]) a b c d).vl C=.tuple [.sl L t,.int .i64 e]:=(rfl)
@[simp] def zDk (hn:post.length=n):(Hs args sl cS tr xI g ⟨Bi,Bh,n,hh⟩ (x::y::z::post) r a b c d).hp C={ H:=(((C.H.set d (.arr 10 Bh (xI.map bW) false false true)).set c (.arr 8 Bi (cS.map dG) false false true)).set b (.arr (n+3) 0 [x::.own c Bi 0 cS.length none::.own d Bh 0 xI.length none::post] true false false)).set a (jm (.ptr b 0 1)),n:=C.n,log:=a::b::c::d::C.log }:=by
  show ({ H:=(((C.H.set d ((mT xI ⟨Bi,Bh,n,hh⟩).cq _)).set c ((mS cS ⟨Bi,Bh,n,hh⟩).cq _)).set b (mI 1 (x::y::z::post) _ (1,mB 2 3 cS xI ⟨Bi,Bh,n,hh⟩))).set a _,n:=C.n+0,log:=_ }:HS)=_;rw[rZ,rY,Ce hn];rfl
end
def zBZ(sl:Z Slot)(tr:Z Change)(g:Y Nat):Z (Nat×Obj):=(0,zLK sl)::zLj 1 tr g
def zMO(args:Z V)(sl:Z Slot)(tr:Z Change)(g:Y Nat)(r:V)(c d:Nat):EmbD where
 k:=uK g 1
 k':=uK g 1
 π:=λi=>(c::zy1 g d).getD i 0
 OL:=zBZ sl tr g
 cI:=zBZ sl tr g
 dq:=.agg [.own 0 0 0 sl.length none,zLk 1 tr g]::args
 v0:=r
def usM (F:ao->Z V->Y V) (vs:Z V) (C:HS):Y EmbD:=match vs with
 |.agg [x,y]::args=>W (zCg C x) λs=>W (zB4 C y) λt=>W (F ⟨s.2,t.2.1⟩ args) λr =>
  gd (et (cd (s.1::zy1 t.2.2 t.1)) (et ((s.1::zy1 t.2.2 t.1).all λx=>Nat.blt x C.n) (et (cu args) (et r.pure (ig C C.n)))))
   (some (zMO args s.2 t.2.1 t.2.2 r s.1 t.1))
 |_=>none
def zB1(sl:Z Slot)(tr:Z Change)(g:Y Nat)(sn:Z Int):Z (Nat×Obj):=[(0,jm (.ptr 1 0 0)),(1,uB sl tr g 4),(2,zLK sl),(3,.mp (sn.map vB))]++zLj 4 tr g
def zMP(args:Z V)(sl:Z Slot)(tr:Z Change)(g:Y Nat)(sn DU:Z Int)(r:Bool)(a b c m d:Nat):EmbD where
 k:=uK g 4
 k':=uK g 4
 π:=λi=>([a,b,c,m]++zy1 g d).getD i 0
 OL:=zB1 sl tr g sn
 cI:=zB1 sl tr g DU
 dq:=.ptr 0 0 0::args++[.map 3]
 v0:=.bool r
def uhM (F:Z Slot->Int->Z Int->G->Y (Bool×Z Int)) (vs:Z V) (C:HS):Y EmbD:=match vs with
 | [.ptr a 0 0,tv,.int .i64 h,.map m]=>W (bo.dec tv:Y G) λty=>W (C.H.get a) λoa=>W (du oa) λva=>W (WW va) λb=>W (C.H.get b) λo=>W (zCf o) λq=>W (zCg C q.1) λs=>W (zB4 C q.2) λt =>
  W (C.H.get m) λom=>W (V7 om) λes=>W (xS es) λsn=>W (F s.2 h sn ty) λr =>
  gd (et (cd ([a,b,s.1,m]++zy1 t.2.2 t.1)) (et (([a,b,s.1,m]++zy1 t.2.2 t.1).all λx=>Nat.blt x C.n) (ig C C.n)))
   (some (zMP [tv,.int .i64 h] s.2 t.2.1 t.2.2 sn r.2 r.1 a b s.1 m t.1))
 |_=>none
def zm7(l:Z V):Y (Nat×Nat×Nat):=match l with
 | [.ptr p 0 0,.ptr q 0 0,.ptr w 0 0]=>some (p,q,w)
 |_=>none
theorem zm6{l:Z V}{q:Nat×Nat×Nat}(h:zm7 l=some q):l=[.ptr q.1 0 0,.ptr q.2.1 0 0,.ptr q.2.2 0 0]:=by
 unfold zm7 at h
 grind
@[simp] def zIY {p q w:Nat}:zm7 [.ptr p 0 0,.ptr q 0 0,.ptr w 0 0]=some (p,q,w):=(rfl)
def intOf(v:V):Y Int:=match v with
 |.int .i64 n=>some n
 |_=>none
theorem zjO{v:V}{n:Int}(h:intOf v=some n):v=.int .i64 n:=by
 unfold intOf at h
 grind
@[simp] def zGI {n:Int}:intOf (.int .i64 n)=some n:=(rfl)
end Go.J
