import Derived.Test.YtfloillkpbhhhaaGreatJK8
import Derived.Test.YtfloillkpbhhhaaGreatJK9
import Derived.Test.YtfloillkpbhhhaaGreatJK6
set_option linter.all false
noncomputable section
namespace Go.J
open bo (enc)
variable {b:Bool}{r:Bool×Z Int}{e:Ending}{E:Env}{f:FuncId}{t:G}{p q:G->Z Int->Y (Bool×Z Int)}{C:HS}{h:Int}{g i k n x:Nat}{A:Nat->Bool}{I:Nat->Value}{o:Obj}{H:PT Obj}{P:Program}{sc:SC}{s:ao}{α:Type}{c:Y Nat}{HF OL:Z (Nat×Obj)}{tr:Z Change}{D:Z Decl}{Lv:Z G}{sn:Z Int}{l m:Z Nat}{sl:Z Slot}{L:Z bZ}{y:bZ}
def IK:Nat->Z (Z V)->Z (Nat×Obj)
 |_,[]=>[]
 |i,c::l=>(i,box c)::IK (i+1) l
def NW:Nat->Nat->Z V
 |_,0=>[]
 |i,n+1=>.ptr i 0 0::NW (i+1) n
@[simp] def zG0 :IK i []=[]:=(rfl)
@[simp] def Y5  {c:Z V} {l:Z (Z V)}:IK i (c::l)=(i,box c)::IK (i+1) l:=(rfl)
@[simp] def zBg :NW i 0=[]:=(rfl)
@[simp] def zkk :NW i (n+1)=.ptr i 0 0::NW (i+1) n:=(rfl)
def DH(g:Y Nat)(l:Z V):Z V:=match g with
 |none=>l
 |some g=>[.func g l]
@[simp] def zcy {l:Z V}:DH none l=l:=(rfl)
@[simp] def zcx  {l:Z V}:DH (some g) l=[.func g l]:=(rfl)
def OX (g:Y Nat) (l:Z V):Y (Z V):=match g with
 |none=>some l
 | some g=>(match l with
   | [.func g' l]=>gd (Nat.beq g' g) (some l)
   |_=>none)
@[simp] def zz1 {l:Z V}:OX none l=some l:=(rfl)
@[simp] def zz0  {l:Z V}:OX (some g) [.func g l]=some l:=by
  show gd (Nat.beq g g) (some l)=_;rw[beq_true.2 rfl];rfl
def Y3{g:Y Nat}{l m:Z V}(h:OX g l=some m):l=DH g m:=by
 cases g with
 |none=>cases h;rfl
 | some g =>
   unfold OX at h;dsimp only at h;split at h;simp only[bI,beq_true]at h;obtain⟨rfl,h⟩:=h;cases h;rfl;cases h
def zqd(o:Obj):Y (Z V):=match o with
 |.arr n 0 [c] true false false=>gd (et (Nat.beq n (dB c)) (c.all V.bN)) (some c)
 |_=>none
theorem zqc{c:Z V}(h:zqd o=some c):o=box c/\c.all V.bN=true:=by
 unfold zqd at h;split at h;simp only[bI,dz,beq_true]at h;obtain⟨⟨rfl,M⟩,h⟩:=h;cases h;exact⟨rfl,M⟩;cases h
@[simp] def zM2  {c:Z V}:zqd (.arr n 0 [c] true false false)=gd (et (Nat.beq n (dB c)) (c.all V.bN)) (some c):=(rfl)
def BZ(C:HS):Z V->Y (Z (Nat×Z V))
 | []=>some []
 |.ptr id 0 0::l=>ob (C.H.get id) λo=>ob (zqd o) λc=>gd (Nat.blt id C.n) (ob (BZ C l) λr=>some ((id,c)::r))
 |_=>none
@[simp] def zzZ :BZ C []=some []:=by rw[BZ]
@[simp] def zzY  {id:Nat} {l:Z V}:BZ C (.ptr id 0 0::l)=ob (C.H.get id) λo=>ob (zqd o) λc=>gd (Nat.blt id C.n) (ob (BZ C l) λr=>some ((id,c)::r)):=by rw[BZ]
theorem zgz:∀ {l:Z V} {q:Z (Nat×Z V)},BZ C l=some q->l=q.map (λp=>V.ptr p.1 0 0)/\∀ p∈q,C.H.get p.1=some (box p.2)/\p.1<C.n/\p.2.all V.bN=true:=by
 intro l
 induction l with
 |nil=>intro q h;rw[BZ]at h;cases h;exact⟨rfl,λp hp=>by cases hp⟩
 | cons v l ih =>
   intro q h;unfold BZ at h;grind [id,aC,bI,gz,zqc]
def sw(v:V):Z Nat:=match v with
 |.own id _ _ _ _=>[id]
 |_=>[]
@[simp] def zxX {id o:Nat} :sw (.own id g o n c)=[id]:=(rfl)
@[simp] def zvY:sw .a8=[]:=(rfl)
@[simp] def zA2 {es:Z (Z V)} :sw (.sl es b)=[]:=(rfl)
@[simp] def zxY {l:Z V}:sw (.agg l)=[]:=(rfl)
def Rb(sz:Nat)(C:HS)(v:V):Y V:=match v with
 |.a8=>some (.sl [] false)
 |.own i g o n c=>ob (rowOf sz C (.own i g o n c)) λes=>some (.sl es false)
 |v=>gd v.pure (some v)
@[simp] def zw8 {sz:Nat} :Rb sz C .a8=some (.sl [] false):=(rfl)
@[simp] def zAH {sz:Nat}  {o:Nat} :Rb sz C (.own i g o n c)=ob (rowOf sz C (.own i g o n c)) λes=>some (.sl es false):=(rfl)
@[simp] def zDu {sz:Nat}  {es:Z (Z V)} :Rb sz C (.sl es b)=gd (V.sl es b).pure (some (.sl es b)):=(rfl)
@[simp] def zAI {sz:Nat}  {l:Z V}:Rb sz C (.agg l)=gd (V.agg l).pure (some (.agg l)):=(rfl)
def zQW(sz n:Nat)(X X0:V)(RL:Z (Nat×Obj)):Prop:=(X0=X/\RL=[]/\X.pure=true)\/∃ es,X=.sl es false/\X0=oV n es/\RL=oH n sz es/\(es.all λe=>e.all V.bN)=true
def Qb(sz:Nat)(g:Y Nat)(F:V->Z (Z V)->Y V):Spec:=λvs C=>match vs with
 |x::cl=>ob (OX g cl) λl=>ob (BZ C l) λq=>gd (cj (q.map Prod.fst++sw x)) (ob (Rb sz C x) λX=>ob (F X (q.map Prod.snd)) λr=>gd r.pure (some (r,C)))
 |_=>none
theorem Ey:∀ {l:Z (Nat×Obj)},(∀ p∈l,H.get p.1=some p.2)->∀ id,(yH H l).get id=H.get id:=by
 intro l
 induction l with
 |nil=>intro _ id;rfl
 | cons p l ih =>
   intro h id;show ((yH H l).set p.1 p.2).get id=_;simp_all
def zqq(l:Z (Z V)):∀ i,(IK i l).map Prod.fst=List.range' i l.length:=by
 induction l with
 |nil=>intro i;rfl
 |cons c l ih=>intro i;rw[Y5,aX,ih (i+1)];rfl
def zqp{l:Z (Z V)}:∀ {i:Nat} {p:Nat×Obj},p∈IK i l->∃ j c,p=(i+j,box c)/\l[j]?=some c:=by
 induction l with
 |nil=>intro i p h;cases h
 | cons c l ih =>
   intro i p h;rw[Y5]at h;rcases ay.1 h with rfl|h;exact⟨0,c,rfl,rfl⟩;obtain⟨j,c',rfl,O⟩:=ih h;exact⟨j+1,c',by rw[show i+1+j=i+(j+1) by omega],by simpa using O⟩
def UQ(n:Nat):∀ i,NW i n=(List.range' i n).map λj=>V.ptr j 0 0:=by
 induction n with
 |zero=>intro i;rfl
 |succ n ih=>intro i;rw[zkk,ih];rfl
theorem fS(h:i<l.length):l.getD i 0=l[i]:=by simp[List.getD,h]
def Dy(h:cj l=true){j:Nat}(hi:i<l.length)(hj:j<l.length)(e:l.getD i 0=l.getD j 0):i=j:=by
 have:=Qg h;rw[fS hi,fS hj]at e;exact(List.getElem_inj this).1 e
section
variable {fn:Func}{T:PT V}{g:Y Nat}{X X0 r:V}{RL:Z (Nat×Obj)}{cs:Z (Z V)}{sz:Nat}
theorem UN (hρ:Good I) (aq:bK I E) (hP:E.P.follows .mixedOrders=true) (hN:vX E.P) (hf:E.P.funcs[f]?=some fn) (hb:fn.body.bind aV=some sc)
 (he:jH fn.ntmps (X0::DH g (NW 0 cs.length)) 0 .leaf=some T) (hr:r.pure=true)
 (h:Wp I E (cs.length+RL.length) fn.ntmps sc T { H:=dP (IK 0 cs++RL),n:=cs.length+RL.length,log:=[] } (Leaves E.P fn (aJ (cs.length+RL.length) r (IK 0 cs++RL))))
 {x:V}  {q:Z (Nat×Z V)} (hq:q.map Prod.snd=cs) (hc:∀ p∈q,C.H.get p.1=some (box p.2)/\p.1<C.n/\p.2.all V.bN=true) (eV:cj (q.map Prod.fst++sw x)=true)
 (W:(X0=x/\RL=[]/\x.pure=true/\sw x=[])\/∃ es i,x=oV i es/\es≠[]/\X0=oV cs.length es/\RL=oH cs.length sz es/\(es.all λe=>e.all V.bN)=true/\C.H.get i=some (oO sz es)/\i<C.n) :
 aS I E.P f (x::DH g (q.map λp=>V.ptr p.1 0 0)) C r C:=by
 have zc:q.length=cs.length:=by rw[<- hq];simp
 have hk:(q.map Prod.fst++sw x).length=cs.length+RL.length:=by rcases W with⟨_,rfl,_,h4⟩|⟨es,i,rfl,cg,_,rfl,_⟩;rw[h4];simp[zc];rw[uA cg,jA cg];simp[zc]
 have zfU:(IK 0 cs++RL).map Prod.fst=List.range (cs.length+RL.length):=by rw[fe,zqq,List.range_eq_range'];rcases W with⟨_,rfl,_,_⟩|⟨es,i,_,cg,_,rfl,_⟩;simp;rw[jA cg];simp[List.range'_concat]
 have hdom:∀ i,i<cs.length+RL.length->cx (IK 0 cs++RL) i=true:=by
  intro i hi;have:i∈(IK 0 cs++RL).map Prod.fst:=by rw[zfU];exact dh.2 hi
  obtain⟨p,hp,rfl⟩:=aF.1 this;exact dN.2 ⟨p,hp,beq_true.2 rfl⟩
 let π:Nat->Nat:=λi=>(q.map Prod.fst++sw x).getD i 0;have zOf:∀ i (hi:i<q.length),π i=q[i].1:=by intro i hi;show (q.map Prod.fst++sw x).getD i 0=_;rw[fS (by simp;omega),List.getElem_append_left (by simpa using hi),iD]
 have IJ:∀ p∈IK 0 cs++RL,C.H.get (π p.1)=some p.2/\(∀ σ,p.2.cw σ=p.2)/\p.2.fz=false/\(∀ A,p.2.in A=true)/\π p.1<C.n:=by
  intro p hp;rcases bu.1 hp with hp|hp;obtain⟨j,c,rfl,hj⟩:=zqp hp;rw[<- hq,bC]at hj;have wi:j<q.length:=jN λh=>by rw[jS h]at hj;cases hj
  rw[az wi]at hj;cases hj;let⟨a1,a2,a3⟩:=hc q[j] (ax wi);have e:π (0+j)=q[j].1:=by rw[fV];exact zOf j wi
  refine⟨by rw[e];exact a1,λσ=>?_,rfl,λA=>?_,by rw[e];exact a2⟩;show Obj.arr _ _ [q[j].2.map (V.jr σ)] _ _ _=_;rw[map_id' λv hv=>V.jF (au.1 a3 v hv)];rfl;show (([q[j].2]:Z (Z V)).all λe=>e.all (V.Ai A))=true;simp only[iG,rQ,fT];exact au.2 λv hv=>V.Ah (au.1 a3 v hv);rcases W with⟨_,rfl,_,_⟩|⟨es,i,rfl,cg,_,rfl,h5,h6,h7⟩;cases hp;rw[jA cg]at hp;obtain rfl:=ag.1 hp;have e:π cs.length=i:=by show (q.map Prod.fst++sw (oV i es)).getD cs.length 0=i;rw[uA cg,fS (by simp[zc]),jZ (by simp[zc])];simp
  exact⟨by show C.H.get (π cs.length)=_;rw[e];exact h6,λσ=>Dx h5,rfl,λA=>zER h5,by show π cs.length<_;rw[e];exact h7⟩
 have eg:(X0::DH g (NW 0 cs.length)).map (V.cw π)=x::DH g (q.map λp=>V.ptr p.1 0 0):=by
  have hp:(NW 0 cs.length).map (V.xI π)=q.map λp=>V.ptr p.1 0 0:=by rw[UQ,gI];refine List.ext_getElem (by simp[zc]) λi M O=>?_;simp only[iD,List.getElem_range',Function.comp];have hi:i<q.length:=(by simpa using O);show V.ptr (π (0+1*i)) 0 0=V.ptr q[i].1 0 0;rw[show 0+1*i=i by omega,zOf i hi]
  have hp3:(NW 0 cs.length).map (V.cw π)=q.map λp=>V.ptr p.1 0 0:=by rw[<- hp,UQ,gI,gI];rfl
  rw[aX];congr 1;rcases W with⟨rfl,_,h3,_⟩|⟨es,i,rfl,cg,rfl,_,_,_,_⟩;exact V.jq (V.dU h3);rw[uA cg,uA cg];show V.own (π cs.length) _ _ _ _=_;have e:π cs.length=i:=by show (q.map Prod.fst++sw (oV i es)).getD cs.length 0=i;rw[uA cg,fS (by simp[zc]),jZ (by simp[zc])];simp
  rw[e]
  cases g with
  |none=>exact hp3
  | some g =>show [V.func g ((NW 0 cs.length).map (V.xI π))]=_;rw[hp];rfl
 have zL7:∀ v∈X0::DH g (NW 0 cs.length),v.sS (cx (IK 0 cs++RL))=true:=by
  intro v hv;have zFQ:∀ u∈NW 0 cs.length,∃ j,u=.ptr j 0 0/\cx (IK 0 cs++RL) j=true:=by intro u hu;rw[UQ]at hu;obtain⟨j,hj,rfl⟩:=aF.1 hu;have:=List.mem_range'_1.1 hj;exact⟨j,rfl,hdom j (by omega)⟩
  rcases ay.1 hv with rfl|hv;rcases W with⟨rfl,_,h3,_⟩|⟨es,i,rfl,cg,rfl,rfl,_,_,_⟩;exact V.dU h3;rw[uA cg];exact hdom cs.length (by rw[jA cg];simp)
  cases g with
  |none=>obtain⟨j,rfl,hj⟩:=zFQ v hv;exact hj
  | some g =>obtain rfl:=ag.1 hv;show ((NW 0 cs.length).all (V.MQ _))=true;exact au.2 λu hu=>by obtain⟨j,rfl,hj⟩:=zFQ u hu;exact hj
 have key:=He (k:=cs.length+RL.length) (k':=cs.length+RL.length) (OL:=IK 0 cs++RL) (cJ:=IK 0 cs++RL) (v0:=r) (eb:=X0::DH g (NW 0 cs.length)) hf hb he (Eb hρ aq hP hN h) zfU zfU (af _)
  (λp hp=>(IJ p hp).2.2.2.1 _) (λp hp=>⟨(IJ p hp).2.2.2.1 _,(IJ p hp).2.2.1⟩) (V.dU hr) zL7 (C:=C) (π:=π)
  (λi j hi hj e=>Dy eV (by omega) (by omega) e) (λp hp=>by rw[(IJ p hp).2.1];exact(IJ p hp).1) (λi hi=>absurd hi (by omega))
  (λi hi=>by
    have:i∈(IK 0 cs++RL).map Prod.fst:=(by rw[zfU];exact dh.2 hi);obtain⟨p,hp,rfl⟩:=aF.1 this
    exact(IJ p hp).2.2.2.2)
 rw[V.jq (V.dU hr),eg]at key;replace key:aS I E.P f (x::DH g (q.map λp=>V.ptr p.1 0 0)) C r _:=key;have hx:∀ id,(DV C (cs.length+RL.length) (cs.length+RL.length) π (IK 0 cs++RL)).H.get id=C.H.get id:=by intro id;refine Ey (λp hp=>?_) id;obtain⟨p0,qe,rfl⟩:=aF.1 hp;have cG:p0.1<cs.length+RL.length:=dh.1 (by rw[<- zfU];exact aF.2 ⟨p0,qe,rfl⟩);show C.H.get (news C.n _ π p0.1)=some (p0.2.cw _);rw[(IJ p0 qe).2.1,show news C.n (cs.length+RL.length) π p0.1=π p0.1 from if_pos cG];exact(IJ p0 qe).1
 exact aS.quiet key hr (λid o ho=>by rw[hx];exact ho) (λid _ hn=>by rw[hx];exact hn)
end
section
variable {f:Nat}{sz:Nat}{g:Y Nat}{F:V->Z (Z V)->Y V}
theorem Valid.rd (hf:vM P f) (h:∀ X cs r,F X cs=some r->r.pure=true->∀ x X0 RL,zQW sz cs.length X X0 RL ->
 ∀ (C:HS) (q:Z (Nat×Z V)),q.map Prod.snd=cs->(∀ p∈q,C.H.get p.1=some (box p.2)/\p.1<C.n/\p.2.all V.bN=true)->cj (q.map Prod.fst++sw x)=true ->
   ((X0=x/\RL=[]/\x.pure=true/\sw x=[])\/∃ es i,x=oV i es/\es≠[]/\X0=oV cs.length es/\RL=oH cs.length sz es/\(es.all λe=>e.all V.bN)=true/\C.H.get i=some (oO sz es)/\i<C.n) ->
   aS I P f (x::DH g (q.map λp=>V.ptr p.1 0 0)) C r C):Valid I P f (Qb sz g F) where
 fn:=hf
 ok := by
  intro vs C v a9 hq;unfold Qb at hq;split at hq;rename_i x cl;simp only[aC,bI]at hq;let⟨l,hl,q,we,eV,X,hX,r,hr,hp,hq⟩:=hq;cases hq;have e1:=Y3 hl;subst e1;obtain⟨rfl,hc⟩:=zgz we;unfold Rb at hX;split at hX;cases hX;exact h _ _ _ hr hp .a8 .a8 [] (.inr ⟨[],rfl,rfl,rfl,rfl⟩) C q rfl hc eV (.inl ⟨rfl,rfl,rfl,rfl⟩);rename_i i g o n c;simp only[aC]at hX;let⟨es,fY,hX⟩:=hX;cases hX;rcases C9 fY with⟨M,_⟩|⟨id,M,O,h3,h4,h5⟩;cases M;rw[M]at eV ⊢;exact h _ _ _ hr hp (oV id es) (oV _ es) (oH _ sz es) (.inr ⟨es,rfl,rfl,rfl,h5⟩) C q rfl hc eV (.inr ⟨es,id,rfl,O,rfl,rfl,h5,h3,h4⟩);rename_i M O;simp only[bI]at hX;let⟨Bk,hX⟩:=hX;cases hX;have wa:sw x=[]:=by unfold sw;split;exact absurd rfl (O _ _ _ _ _);rfl
  exact h _ _ _ hr hp x x [] (.inl ⟨rfl,rfl,Bk⟩) C q rfl hc eV (.inl ⟨rfl,rfl,Bk,wa⟩);cases hq
 kept:=by
  intro vs C q hq;unfold Qb at hq;split at hq;simp only[aC,bI]at hq;let⟨_,_,_,_,_,_,_,_,_,_,hq⟩:=hq;cases hq;exact .refl _;cases hq
end
section
variable {sz:Nat}{g:Y Nat}{F:V->Z (Z V)->Y V}{x:V}{cl:Z V}{Q:V×HS->Prop}
@[simp] def zKY:BO (Qb sz g F (x::cl) C) Q=BO (OX g cl) λl=>BO (BZ C l) λq=>cj (q.map Prod.fst++sw x)=true/\BO (Rb sz C x) λX=>BO (F X (q.map Prod.snd)) λr=>r.pure=true/\Q (r,C):=by
  show ok (Qb sz g F (x::cl) C) Q=ok (OX g cl) λl=>ok (BZ C l) λq=>cj (q.map Prod.fst++sw x)=true/\ok (Rb sz C x) λX=>ok (F X (q.map Prod.snd)) λr=>r.pure=true/\Q (r,C);simp only[Qb,vO,iM,dL]
variable {β γ σ τ:Type} [bo α] [bo β] [iI σ] [iI τ]
def CB(F:α->σ->Y β)(x:V)(cs:Z (Z V)):Y V:=match cs with
 | [c]=>ob (bo.dec x) λa=>ob (iI.dec c) λs=>ob (F a s) λr=>some (enc r)
 |_=>none
@[simp] def zKZ {F:α->σ->Y β} {x:V} {c:Z V}:CB F x [c]=ob (bo.dec x) λa=>ob (iI.dec c) λs=>ob (F a s) λr=>some (enc r):=(rfl)
theorem Jn{F:α->σ->Y β}{x:V}{cs:Z (Z V)}{r:V}(h:CB F x cs=some r):∃ a s b,x=enc a/\cs=[iI.cells s]/\F a s=some b/\r=enc b:=by
 unfold CB at h;split at h;simp only[aC]at h;let⟨a,ha,s,C,b,hb,h⟩:=h;cases h;exact⟨a,s,b,bo.bB _ _ ha,by rw[iI.bB _ _ C],hb,rfl⟩;cases h
end
section
variable {π σ:Nat->Nat}
def V.xH(h:∀ i,A i=true->π i=σ i){v:V}(hv:v.MQ A=true):v.xI π=v.xI σ:=by
 cases v<;>first|rfl|(simp only[V.xI];rw[h _ hv])
theorem V.ze8(h:∀ i,A i=true->π i=σ i){v:V}(hv:v.Ai A=true):v.jr π=v.jr σ:=by
 cases v with
 |agg cs=>show V.agg (cs.map (V.xI π))=V.agg (cs.map (V.xI σ));rw[ic λu hu=>V.xH h (au.1 (show (cs.all (V.MQ A))=true from hv) u hu)]
 |func f cs=>show V.func f (cs.map (V.xI π))=V.func f (cs.map (V.xI σ));rw[ic λu hu=>V.xH h (au.1 (show (cs.all (V.MQ A))=true from hv) u hu)]
 |iface t v=>show V.iface t (v.xI π)=V.iface t (v.xI σ);rw[V.xH h (show v.MQ A=true from hv)]
 |ptr id g off=>exact V.xH (v:=.ptr id g off) h hv
 |own id g off len cap=>exact V.xH (v:=.own id g off len cap) h hv
 |map id=>exact V.xH (v:=.map id) h hv
 |lx id=>exact V.xH (v:=.lx id) h hv
 |_=>rfl
theorem Obj.P7(h:∀ i,A i=true->π i=σ i)(ho:o.in A=true):o.cw π=o.cw σ:=by
 cases o with
 | arr size gen es ex fz row =>show Obj.arr _ _ _ _ _ _=Obj.arr _ _ _ _ _ _;congr 1;refine ic λe he=>ic λv hv=>?_;have M:=au.1 (au.1 (show (es.all λe=>e.all λv=>if row then v.bN else v.Ai A)=true from ho) e he) v hv;grind [V.jF,V.ze8]
 |mp es=>rfl
 |lp=>rfl
end
def zp(cI:Z V->HS->Y EmbD):Spec:=λvs C=>ob (cI vs C) λD=>gd D.v0.pure (some (D.v0,C))
theorem zsS{fn:Func}{T:PT V}{D:EmbD}(hρ:J.Good I)(aq:bK I E)(hP:E.P.follows .mixedOrders=true)(hN:vX E.P)(hf:E.P.funcs[f]?=some fn)(hb:fn.body.bind aV=some sc)(he:jH fn.ntmps D.eb 0 .leaf=some T)
 (hg:D.Good) (ho:D.cJ=D.OL) (hr:D.v0.pure=true) (h:Wp I E D.k fn.ntmps sc T { H:=dP D.OL,n:=D.k,log:=[] } (Leaves E.P fn (aJ D.k D.v0 D.OL))) {vs:Z V}  (b4:D.Fits vs C) :
 aS I E.P f vs C D.v0 C:=by
 have key:=zgg hρ aq hP hN hf hb he hg (by rw[ho];exact h) b4;rw[V.jq (V.dU hr)]at key
 have hx:∀ id,(DV C D.k D.k' D.π D.cJ).H.get id=C.H.get id:=by
  intro id;refine Ey (λp hp=>?_) id;obtain⟨p0,qe,rfl⟩:=aF.1 hp;have CH:p0∈D.OL:=by rw[<- ho];exact qe
  have cG:∀ i,cx D.OL i=true->i<D.k:=by intro i hi;let⟨q,hq,S3⟩:=dN.1 hi;rw[beq_true]at S3;exact dh.1 (by rw[<- hg.ol];exact aF.2 ⟨q,hq,S3⟩)
  have h0:p0.1<D.k:=cG _ (dN.2 ⟨p0,CH,beq_true.2 rfl⟩);show C.H.get (news C.n D.k D.π p0.1)=some (p0.2.cw (news C.n D.k D.π));rw[show news C.n D.k D.π p0.1=D.π p0.1 from if_pos h0,Obj.P7 (A:=cx D.OL) (π:=news C.n D.k D.π) (σ:=D.π) (λi hi=>if_pos (cG i hi)) (hg.RK p0 CH)];exact b4.obj p0 CH
 grind [aS.quiet,id]
def Valid.zp{f:Nat}{cI:Z V->HS->Y EmbD}(hf:vM P f)(h:∀ vs C D,cI vs C=some D->D.v0.pure=true->aS I P f vs C D.v0 C):Valid I P f (zp cI) where
 fn:=hf
 ok:=by intro vs C v a9 hq;simp only[J.zp,aC,bI]at hq;let⟨D,hD,hp,hq⟩:=hq;cases hq;exact h _ _ _ hD hp
 kept:=by
  intro vs C q hq;simp only[J.zp,aC,bI]at hq;let⟨D,hD,hp,hq⟩:=hq;cases hq;exact .refl _
@[simp] def zK0 {cI:Z V->HS->Y EmbD} {vs:Z V}  {Q:V×HS->Prop}:BO (J.zp cI vs C) Q=BO (cI vs C) λD=>D.v0.pure=true/\Q (D.v0,C):=by
  show ok (J.zp cI vs C) Q=ok (cI vs C) λD=>D.v0.pure=true/\Q (D.v0,C);simp only[J.zp,iM,vO,dL]
mutual
theorem Re:∀ t:G,t.valid=true->t.zc5=true
 | .mk k n i h l=>λhv=>by
   have ha:=G.Md hv;rw[G.zc5,Lf l (λu hu=>ha u hu),fT];by_cases hk:k=1;subst hk;simp only[G.valid]at hv;simp at hv;simp[hv];simp[hk]
theorem Lf:∀ l:Z G,(∀ u∈l,u.valid=true)->G.GX l=true
 | []=>λ_=>by rw[G.GX]
 |t::l=>λh=>by rw[G.GX,Re t (h t (aB ..)),Lf l (λu hu=>h u (aD _ hu))];rfl
end
def YY(h:t.valid=true):wS [t] []=um [t]:=(zjl (by rw[G.GX,Re t h];rfl)).symm
def zmr(D:Z Decl):Prop:=∀ d∈D,BL d.name=true/\d.name≠[45,62]/\d.name≠[73,110,116]/\d.params.length<=4
def R8(bits:Int):zmr (bA bits):=by
 intro d hd;have key:∀ d∈La,BL d.name=true/\d.name≠[45,62]/\d.name≠[73,110,116]/\d.params.length<=4:=by decide
 exact key d (kH hd)
def zeD:Un.valid=true:=by decide
theorem zeE{n:Z Nat}{l:Z G}(M:BL n=true)(O:n≠[45,62])(h3:n≠[73,110,116])(h4:l.length<=4)(hl:∀ x∈l,x.valid=true):(wJ n l).valid=true:=by
 grind [G.Gx,wJ,G.valid]
def Zm{a b:G}(ha:a.valid=true)(hb:b.valid=true):(wo a b).valid=true:=by
 simp[wo,wJ,G.valid,G.rq,ha,hb]
theorem Er(hD:zmr D)(hl:∀ l∈Lv,l.valid=true)(d:Nat)(t:Tp):(jk d t D Lv).2.valid=true :=
 C8 (P:=λt=>t.valid=true) hl zeD (λdd hd l fX W=>by
  let⟨M,O,h3,h4⟩:=hD dd hd
  exact zeE M O h3 (by omega) W) (λa b ha hb=>Zm ha hb) d t
mutual
theorem Rc:∀ t:G,t.valid=true->t.short=true
 | .mk k n i h l=>λhv=>by
   have ha:=G.Md hv;rw[G.short,Le l (λu hu=>ha u hu),fT,decide_eq_true_eq];unfold G.valid at hv
   have HR : n.length ≤ 12 → n.length < 2^63 := fun h => by have:(12:Nat)<2^63:=by decide
                                                            omega
   refine HR ?_;split at hv;simp at hv;rw[hv.1.1.2];decide;split at hv;simp at hv;rw[hv.1.2];decide;split at hv;simp[jC]at hv;omega;split at hv;split at hv;rename_i e;rw[e];decide;split at hv;rename_i e;rw[e];decide;simp[BL]at hv;omega;cases hv
theorem Le:∀ l:Z G,(∀ u∈l,u.valid=true)->G.su l=true
 | []=>λ_=>by rw[G.su]
 |t::l=>λh=>by rw[G.su,Rc t (h t (aB ..)),Le l (λu hu=>h u (aD _ hu))];rfl
end
namespace ao
def gs(x:Slot):Prop:=if x.bound=true then x.type.valid=true else x.type=wI
structure zQZ(s:ao):Prop where
 len:s.bc.length<=1000
 AM:∀ x∈s.bc,gs x
end ao
namespace ao
def DS (rec:G->Z Int->Y (Bool×Z Int)):Z G->Z Int->Y (Bool×Z Int)
 | [],sn=>some (false,sn)
 | t::l,sn=>match rec t sn with
   |none=>none
   |some (true,El)=>some (true,El)
   |some (false,El)=>DS rec l El
def gC (s:ao) (h:Int):Nat->G->Z Int->Y (Bool×Z Int)
 | 0,_,_=>none
 | f + 1,t,sn=>if t.kind=1 then (if t.id∈sn then some (false,sn)else match s.cE t.id with
     |none=>some (decide (h<0),sn++[t.id])
     |some x=>if x.bound=true then gC s h f x.type (sn++[t.id])else some (false,sn++[t.id]))
   else if t.kind=3 then some (decide (h<t.home),sn)
   else DS (gC s h f) t.args sn
theorem zdc(h:∀ t sn r,p t sn=some r->q t sn=some r):∀ (l:Z G) (sn:Z Int) (r:Bool×Z Int),DS p l sn=some r->DS q l sn=some r:=by
 intro l
 induction l with
 |nil=>intro sn r h;exact h
 | cons t l ih =>
   grind [DS,w]
theorem zpn(s:ao)(h:Int):∀ (f:Nat) (t:G) (sn:Z Int) (r:Bool×Z Int),gC s h f t sn=some r->gC s h (f+1) t sn=some r:=by
 intro f
 induction f with
 |zero=>intro t sn r hh;cases hh
 | succ f ih =>
   grind [gC,zdc]
theorem FY{f:Nat}(hfg:f<=g)(hh:gC s h f t sn=some r):gC s h g t sn=some r:=by
 induction hfg with
 |refl=>exact hh
 |step _ ih=>exact zpn _ _ _ _ _ _ ih
theorem zpo:∀ (l:Z G),(∀ u∈l,∃ f,∀ sn,∃ r,gC s h f u sn=some r)->∃ f,∀ sn,∃ r,DS (gC s h f) l sn=some r:=by
 intro l
 induction l with
 |nil=>intro _;exact⟨0,λsn=>⟨_,rfl⟩⟩
 | cons t l ih =>
   intro hh;let⟨f,hf⟩:=hh t (aB ..);let⟨g,hg⟩:=ih λu hu=>hh u (aD _ hu);refine⟨max f g,λsn=>?_⟩;let⟨⟨b,El⟩,hr⟩:=hf sn;rw[DS,FY (iP f g) hr];cases b;let⟨r,xf⟩:=hg El;grind [zdc,FY,Nat.le_max_right];exact⟨_,rfl⟩
def ziu    (ht:s.Fin t):∃ f,∀ sn,∃ r,gC s h f t sn=some r:=by
 refine Fin.ind (p:=λt=>∃ f,∀ sn,∃ r,gC s h f t sn=some r) (λt hb ih=>?_) (λt hb ih=>?_) ht;let⟨f,hf⟩:=ih;let⟨hk,i,x,hi,hl,W,A3,wc⟩:=pY hb;refine⟨f+1,λsn=>?_⟩;have e:s.cE t.id=some x:=by rw[hi,fj];exact W
 rw[gC,if_pos hk];split;exact⟨_,rfl⟩;rw[e];simp only;rw[if_pos A3,<- wc];exact hf _;obtain ⟨f,hf⟩:=zpo (h:=h) t.args ih;refine⟨f+1,λsn=>?_⟩;rw[gC];split;rename_i hk;split;exact⟨_,rfl⟩;split;exact⟨_,rfl⟩;rename_i x e;split;rename_i A3;have:=J5 hk e;rw[hb,A3]at this;cases this;exact⟨_,rfl⟩;split;exact⟨_,rfl⟩;exact hf sn
inductive Bl (s:ao):G->G->Prop
 |one {u t:G}:s.below u t->Bl s u t
 |more {u v t:G}:s.below u v->Bl s v t->Bl s u t
def Bl.zLw   (h:s.Fin t):¬ Bl s t t:=by
 have key:∀ t,Acc s.below t->Acc (Bl s) t:=λt ht=>by
  induction ht with
  | intro t _ ih =>
    refine .intro t λu hu=>?_;clear h
    have:∀ u v,Bl s u v->v=t->Acc (Bl s) u:=λu v huv=>by
     induction huv with
     |one h=>intro e;subst e;exact ih _ h
     |more h _ Of=>intro e;exact(Of e).inv (.one h)
    exact this u t hu rfl
 have zLw:∀ t,Acc (Bl s) t->¬ Bl s t t:=λt ht=>by
  induction ht with
  |intro t _ ih=>intro hh;exact ih t hh hh
 exact zLw t (key t h)
def xG(s:ao)(i:Int)(x:Slot):ao:=if (s.iH i).bound=x.bound/\(s.iH i).home=x.home/\(s.iH i).base=x.base then s else (s.set i x).1
def vR(s:ao)(i:Int)(t:G):ao:=s.xG i { s.iH i with bound:=true,type:=t }
def uF(s:ao)(a b:Int):Slot:={ s.iH a with home:=min (s.iH a).home (s.iH b).home,base:=(s.iH a).base||(s.iH b).base }
def Bp(s:ao)(a b:G):ao:=if b.id<a.id then (s.xG b.id (s.uF b.id a.id)).vR a.id b else (s.xG a.id (s.uF a.id b.id)).vR b.id a
def sU(s:ao)(t:G):Bool:=s.uG t&&!(s.iH t.id).bound
def ML(home:Int)(s:ao)(v:Int):ao:=if s.sU (fU v)=true then s.xG v { s.iH v with home:=min (s.iH v).home home }else s
def zit(s:ao)(h:Int)(t:G):Bool:=open Classical in if hh:∃ q,∃ f,gC s h f t []=some q then hh.choose.1 else false
theorem zpl{f:Nat}{q:Bool×Z Int}(hq:gC s h f t []=some q):s.zit h t=q.1:=by
 have hh:∃ q,∃ f,gC s h f t []=some q:=⟨q,f,hq⟩;unfold zit;rw[dif_pos hh];let⟨g,hg⟩:=hh.choose_spec;have M:=FY (iP f g) hq;grind [FY,Nat.le_max_right,Option.some.inj]
def vT(s:ao)(v:Int)(t:G):ao×Int :=
 if v∈qX s [t]then (s,12)else
 if (s.iH v).base=true/\(isArrow t).c=true then (s,14)else
 if s.zit (s.iH v).home t=true then (s,13)else
 (((qX s [t]).foldl (ML (s.iH v).home) s).vR v t,0)
def mG(s:ao)(a b:G):Z bZ×Int×ao :=
 if 200<sz s.w a 200\/200<sz s.w b 200 then ([],15,s)else
 if (s.w a).kind=1/\(s.w b).kind=1/\(s.w a).id=(s.w b).id then ([],0,s)else
 if s.sU (s.w a)=true then (if s.sU (s.w b)=true then ([],0,s.Bp (s.w a) (s.w b))else ([],(s.vT (s.w a).id (s.w b)).2,(s.vT (s.w a).id (s.w b)).1))else
 if s.sU (s.w b)=true then ([],(s.vT (s.w b).id (s.w a)).2,(s.vT (s.w b).id (s.w a)).1)else
 if gA (s.w a) (s.w b)then ([],11,s)else
 (List.zipWith (λx y=>(⟨x,y⟩:bZ)) (s.w a).args (s.w b).args,0,s)
structure Tw(s p:ao):Prop where
 bc:p.bc=s.bc
 b9:p.b9.length<=s.b9.length
theorem Tw.refl(s:ao):Tw s s:=⟨rfl,af _⟩
section
variable {p:ao}
theorem Tw.cE (h:Tw s p)(i:Int):p.cE i=s.cE i:=by unfold ao.cE;rw[h.bc]
theorem Tw.iH(h:Tw s p)(i:Int):p.iH i=s.iH i:=by unfold ao.iH;rw[h.cE]
theorem Tw.uG(h:Tw s p)(t:G):p.uG t=s.uG t:=by unfold ao.uG;rw[h.cE]
theorem Tw.gC(h:Tw s p)(hm:Int):∀ (f:Nat) (t:G) (sn:Z Int),ao.gC p hm f t sn=ao.gC s hm f t sn:=by
 intro f
 induction f with
 |zero=>intro t sn;rfl
 | succ f ih =>
   intro t sn;have e:ao.gC p hm f=ao.gC s hm f:=funext λt=>funext λsn=>ih t sn;rw[ao.gC,ao.gC,h.cE,e]
theorem zjS(h:Tw s p){i:Int}{x:Slot}(W:x=s.iH i):p.xG i x=p:=by
 unfold xG;rw[if_pos];rw[h.iH,W];grind
theorem Rt{S:Nat}(C:yf n S s)(hi:i<n):(s.iH (i:Int)).bound=s.bound (fU (i:Int)):=by
 have cF:i<s.bc.length:=by rw[C.len];exact hi
 have e:=J5 (s:=s) (t:=fU (i:Int)) rfl (by show s.cE (i:Int)=some s.bc[i];rw[fj];exact az cF);rw[pq cF,e]
end
section
variable {S:Nat}
def zsD(C:yf n S s){x:G}(W:iA n S x)(hk:x.kind=1):s.uG x=true:=by
 let⟨h0,M⟩:=W.vars x (.self hk);let⟨i,hi⟩:=bE h0;have cF:i<s.bc.length:=by rw[C.len];omega
 unfold ao.uG;rw[hi,fj,az cF,decide_eq_true hk];rfl
def ziB{p:ao}(C:yf n S s)(h:Tw s p){x:G}(W:iA n S x)(hb:s.bound x=false):p.sU x=s.uG x:=by
 unfold sU;rw[h.uG,h.iH]
 cases hh:s.uG x with
 |false=>rfl
 | true =>
   let⟨i,hi,e1,zJD,b1,_⟩:=C.slot W hh hb;rw[zJD,Rt C hi,b1];rfl
end
end ao
def EmbD.KC{D:EmbD}{vs:Z V}(ids:Z Nat)(hk:D.k=ids.length)(hπ:D.π=λi=>ids.getD i 0)(eV:cj ids=true)(cG:ids.all (λx=>Nat.blt x C.n)=true)(ha:D.eb.map (V.cw D.π)=vs)(ho:∀ p∈D.OL,C.H.get (D.π p.1)=some (p.2.cw D.π))
 (np:D.k'<=D.k+1) (hv:C.H.get C.n=none):D.Fits vs C:=by
 refine⟨ha,λi j hi hj e=>?_,ho,λi hi=>?_,λi hi=>?_⟩;rw[hk]at hi hj;rw[hπ]at e;exact Dy eV hi hj e;have:i=0:=by omega
 subst this;exact hv;rw[hk]at hi;rw[hπ];simp only;rw[fS hi];exact gz.1 (au.1 cG _ (ax hi))
def zNw(r:Nat)(tr:Z Change)(g:Y Nat):V:=match g with
 |none=>.sl (tr.map bW) true
 |some g=>.own r g 0 tr.length none
def zO9(tr:Z Change)(g:Nat):Obj:=.arr 10 g (tr.map bW) false false true
def zNv(r:Nat)(tr:Z Change)(g:Y Nat):Z (Nat×Obj):=match g with
 |none=>[]
 |some g=>[(r,zO9 tr g)]
def zNV(sl:Z Slot):Obj:=.arr 8 0 (sl.map dK) false false true
def uB(sl:Z Slot)(tr:Z Change)(g:Y Nat)(r:Nat):Obj:=.arr 2 0 [[.own 2 0 0 sl.length none,zNw r tr g]] true false false
def zD5 (C:HS) (v:V):Y (Nat×Z Slot):=match v with
 | .own c 0 0 n none=>ob (C.H.get c) λo=>(match o with
   |.arr 8 0 es false false true=>gd (Nat.beq n (dB es)) (ob (eZ es:Y (Z Slot)) λsl=>some (c,sl))
   |_=>none)
 |_=>none
def zDT (C:HS) (v:V):Y (Nat×Z Change×Y Nat):=match v with
 |.sl es true=>ob (eZ es:Y (Z Change)) λtr=>some (0,tr,none)
 | .own d g 0 n none=>ob (C.H.get d) λo=>(match o with
   |.arr 10 g' es false false true=>gd (et (Nat.beq g' g) (Nat.beq n (dB es))) (ob (eZ es:Y (Z Change)) λtr=>some (d,tr,some g))
   |_=>none)
 |_=>none
def zAL(g:Y Nat)(d:Nat):Z Nat:=match g with
 |none=>[]
 |some _=>[d]
def uK(g:Y Nat)(k:Nat):Nat:=match g with
 |none=>k
 |some _=>k+1
def X7(v:V):Y Nat:=match v with
 |.ptr b 0 0=>some b
 |_=>none
def zkl{v:V}{b:Nat}(h:X7 v=some b):v=.ptr b 0 0:=by
 unfold X7 at h;split at h;cases h;rfl;cases h
@[simp] def zH9 {b:Nat}:X7 (.ptr b 0 0)=some b:=(rfl)
def zD3(o:Obj):Y (V×V):=match o with
 |.arr 2 0 [[x,y]] true false false=>some (x,y)
 |_=>none
def NP{args:Z V}(ha:bX args=true)(π:Nat->Nat):args.map (V.cw π)=args :=
 (ic (g:=id) λv hv=>V.jq (V.dU (jo ha v hv))).trans (by simp)
def aJ.auto{v v1:V}(hv:v1.sS (cx OL)=true/\v=v1.cw (J.auto k [(0,v1)] OL (PT.leaf.set 0 v) C.H):=by simp)
 (hH:∀ p∈OL,p.2.in (cx OL)=true/\C.H.get (J.auto k [(0,v1)] OL (PT.leaf.set 0 v) C.H p.1)=some (p.2.cw (J.auto k [(0,v1)] OL (PT.leaf.set 0 v) C.H)):=by simp)
 (hi:cj (OL.map λp=>J.auto k [(0,v1)] OL (PT.leaf.set 0 v) C.H p.1)=true:=by first|rfl|(simp;done)) (hk:(List.range k).all (λi=>Nat.beq (J.auto k [(0,v1)] OL (PT.leaf.set 0 v) C.H i) i&&cx OL i)=true:=by first|rfl|(simp;done)|(simp<;>(intro x W;first|omega|exact⟨.inl W,by omega⟩))):aJ k v1 OL v C :=
 aJ.Mz _ hi hk hv hH
@[simp] def zvM:yx []=.tuple []:=(rfl)
@[simp] def zvW:yD []=some []:=(rfl)
def wH(k:Nat)(v0:V)(OL:Z (Nat×Obj))(v:V)(C:HS):Prop:=∃ a b q,v=.tuple [a,b]/\nE a C=some q/\aJ k v0 OL (.tuple [ig q.1,b]) q.2
theorem zG8{s:Start}{K:V->HS->Prop}{v0:V}(hK:∀ v C,K v C->aJ k v0 OL v C\/wH k v0 OL v C){w:World}(h:Iz I P s K e w):Iz I P s (aJ k v0 OL) e w:=by
 cases e with
 |panicked c=>exact h
 |outgrown=>exact h
 | returned x =>
   let⟨v,a9,F',μ',q,hL,hR,hD,W⟩:=h;rcases hK _ _ q with h|⟨a,b,p,rfl,hp,hg⟩;exact⟨v,a9,F',μ',h,hL,hR,hD,W⟩;obtain⟨ys,rfl,cd,hc⟩:=dZ.qF I W;let⟨F2,R2,f2,_,P2⟩:=zY hR (hc 0 a rfl) hp;refine⟨.tuple [ig p.1,b],p.2,F2,μ',hg,hL.step f2,R2,λid g hg=>(pE hp).hm id (hD id g hg),.tuple _ ys cd λi v hi=>?_⟩;rcases i with _|_|i;cases hi;exact .pure P2.norm;cases hi;exact f2.rep hR (hc 1 b rfl);simp at hi
theorem wH.bw{v0 a b:V}(hi:cj (OL.map λp=>p.1)=true:=by rfl)(hk:(List.range k).all (λi=>cx OL i)=true:=by rfl)(ea:ok (kV C a) λa'=>V.tuple [ig a',b]=v0/\v0.sS (cx OL)=true:=by simp[kV])
 (hH:∀ p∈OL,p.2.in (cx OL)=true/\(a.cells.any (qu p.1))=false/\C.H.get p.1=some p.2:=by simp[qu]):wH k v0 OL (.tuple [a,b]) C:=by
 obtain⟨a',ha,rfl,hv⟩:=ea;refine⟨a,b,(a',mO C a.cells),rfl,by simp only[nE,ha];rfl,aJ.fC hi hk hv λp hp=>?_⟩;let⟨M,O,h3⟩:=hH p hp;exact⟨M,by rw[JM O];exact h3⟩
section
variable {fn:Func}{vs:Z V}{T:PT V}{r:V}{c c':Z V}
theorem zsB{K:V->HS->Prop}(hρ:Good I)(aq:bK I E)(hP:E.P.follows .mixedOrders=true)(hN:vX E.P)(hf:E.P.funcs[f]?=some fn)(hb:fn.body.bind aV=some sc)(he:jH fn.ntmps (.ptr 0 0 0::vs) 0 .leaf=some T)(hp:bX vs=true)
 (hc:c.all V.bN=true) (wq:c'.all V.bN=true) (hr:r.sS (λ_=>false)=true)
 (h:Wp I E 1 fn.ntmps sc T { H:=dP [(0,box c)],n:=1,log:=[] } (Leaves E.P fn K)) (hK:∀ v C,K v C->aJ 1 r [(0,box c')] v C\/Cm 1 r [(0,box c')] v C)  {id:Nat} (hid:id<C.n) (hg:C.H.get id=some (box c)):aS I E.P f (.ptr id 0 0::vs) C r (C.wr id (box c')):=by
 have zpd:∀ (π:Nat->Nat) (c:Z V),c.all V.bN=true->(box c).cw π=box c:=by intro π c hc;show Obj.arr _ _ [c.map (V.jr π)] _ _ _=_;rw[map_id' λv hv=>V.jF (au.1 hc v hv)];rfl
 have Qr:∀ (A:Nat->Bool) (c:Z V),c.all V.bN=true->(box c).in A=true:=by intro A c hc;show ([c].all λe=>e.all λv=>v.Ai A)=true;simp only[iG,rQ,fT];exact au.2 λv hv=>V.Ah (au.1 hc v hv)
 have oX:=jo hp
 have key:=zaZ (k:=1) (k':=1) (OL:=[(0,box c)]) (cJ:=[(0,box c')]) (v0:=r) (eb:=.ptr 0 0 0::vs) hf hb he (Eb hρ aq hP hN h) hK rfl rfl (af _)
  (λp hp=>by simp only[ag]at hp;subst hp;exact Qr _ _ hc)
  (λp hp=>by simp only[ag]at hp;subst hp;exact⟨Qr _ _ wq,rfl⟩)
  (V.Bq (λ_ h=>by cases h) hr)
  (λv hv=>by
    rcases ay.1 hv with rfl|hv;rfl
    exact V.dU (oX v hv))
  (C:=C) (π:=λ_=>id) (λi j hi hj _=>by omega) (λp hp=>by simp only[ag]at hp;subst hp;rw[zpd _ _ hc];exact hg) (λi hi=>absurd hi (by omega)) (λ_ _=>hid)
 rw[V.jq hr]at key;have e1:(V.ptr 0 0 0::vs).map (V.cw λ_=>id)=.ptr id 0 0::vs:=by rw[aX,map_id' λv hv=>V.jq (V.dU (oX v hv))];rfl
 rw[e1]at key;have e2:DV C 1 1 (λ_=>id) [(0,box c')]=C.wr id (box c'):=by show ({ H:=(C.H.set (news C.n 1 (λ_=>id) 0) ((box c').cw _)),n:=C.n+0,log:=[news C.n 1 (λ_=>id) 0]++C.log }:HS)=_;rw[zpd _ _ wq];rfl
 grind
end
@[simp] def zBJ :KX n []=false:=(rfl)
@[simp] def zyx  :KX n (x::l)=(decide (n=x)||KX n l):=by
  show bi (Nat.beq n x) true (KX n l)=_;rw[dI];by_cases h:n=x;simp[h];simp[h]
def zfA:meet (x::l) m=(KX x m||meet l m):=by
 show bi (KX x m) true (meet l m)=_;cases KX x m<;>rfl
@[simp] def zID {y z:Nat} :meet [x] (y::z::m)=KX x (y::z::m):=by rw[zfA];simp
namespace ao
structure kB(s s':ao)(m:Nat):Prop where
 len:s'.bc.length=s.bc.length
 b9:∃ ex,s'.b9=s.b9++ex/\ex.length<=m
theorem kB.refl(s:ao)(m:Nat):kB s s m:=⟨rfl,[],by simp,aZ _⟩
def kB.trans{a b c:ao}{m:Nat}(h:kB a b m)(k:kB b c n):kB a c (m+n):=by
 let⟨x,M,O⟩:=h.b9;let⟨y,h3,h4⟩:=k.b9;exact⟨k.len.trans h.len,x++y,by rw[h3,M,fA],by simp;omega⟩
theorem kB.eq{s':ao}{m:Nat}(h:kB s s' m):s'=⟨s'.bc,s.b9++s'.b9.drop s.b9.length⟩:=by
 let⟨x,M,_⟩:=h.b9
 cases s' with
 | mk sl tr =>
   grind
def zpG(s:ao)(i:Int)(x:Slot):kB s (s.set i x).1 1:=by
 unfold ao.set
 cases s.cE i with
 |none=>exact .refl _ _
 |some o=>exact⟨by simp,[⟨i,o,false⟩],rfl,af _⟩
def xW(s:ao)(i:Int)(x:Slot):kB s (s.xG i x) 1:=by
 unfold xG;split;exact .refl _ _;exact zpG ..
def Al(s:ao)(i:Int)(t:G):kB s (s.vR i t) 1:=xW ..
theorem Yu(s:ao)(a b:G):kB s (s.Bp a b) 2:=by
 unfold Bp;split;exact(xW ..).trans (Al ..);exact(xW ..).trans (Al ..)
def zpH(home:Int)(s:ao)(v:Int):kB s (ML home s v) 1:=by
 unfold ML;split;exact xW ..;exact .refl _ _
def zle(home:Int):∀ (l:Z Int) (s:ao),kB s (l.foldl (ML home) s) l.length:=by
 intro l
 induction l with
 |nil=>intro s;exact .refl _ _
 | cons v l ih =>
   intro s;rw[ky,aL,nD];exact(zpH home s v).trans (ih _)
theorem FZ(s:ao)(v:Int)(t:G):kB s (s.vT v t).1 ((qX s [t]).length+1):=by
 unfold vT;split;exact .refl _ _;split;exact .refl _ _;split;exact .refl _ _;exact(zle _ _ _).trans (Al ..)
end ao
def aJ.zHb{v v0:V}(hn:ig v=v0)(hv:v.sS (cx OL)=true/\v=v.cw (J.auto k [(0,v)] OL (PT.leaf.set 0 v) C.H))
 (hH:∀ p∈OL,p.2.in (cx OL)=true/\C.H.get (J.auto k [(0,v)] OL (PT.leaf.set 0 v) C.H p.1)=some (p.2.cw (J.auto k [(0,v)] OL (PT.leaf.set 0 v) C.H)))
 (hi:cj (OL.map λp=>J.auto k [(0,v)] OL (PT.leaf.set 0 v) C.H p.1)=true) (hk:(List.range k).all (λi=>Nat.beq (J.auto k [(0,v)] OL (PT.leaf.set 0 v) C.H i) i&&cx OL i)=true):aJ k v0 OL v C :=
 aJ.lit _ hi hk hn hv hH
def L4:Z V:=[.int .i64 0,.str [],.int .i64 0,.int .i64 0,.a8,.int .i64 0,.str [],.int .i64 0,.int .i64 0,.a8]
theorem znm(hi:i=L.length):(L.map di++List.replicate (n+1) L4)[i]?=some L4:=by
 grind
def zsF(hi:i=L.length):(L.map di++List.replicate (n+1) L4).set i (di y)=(L++[y]).map di++List.replicate n L4:=by
 subst hi;rw[je _ _ (by simp),aN,iW,fe,fA];rfl
def ZP(L:Z bZ)(k:Nat):Obj:=.arr 10 0 (L.map di++List.replicate k L4) true false true
def SF(l m:Z G):Z bZ:=List.zipWith (λx y=>(⟨x,y⟩:bZ)) l m
theorem zje{l m:Z G}(M:i<l.length)(O:i<m.length):(SF l m).take (i+1)=(SF l m).take i++[⟨l[i],m[i]⟩]:=by
 grind [SF,List.take_add_one,List.getElem?_eq_getElem]
def Ub{l m:Z G}(h:l.length=m.length):(SF l m).length=l.length:=by unfold SF;simp[h]
namespace ao
def Kj(d:Nat)(s:ao)(a b:G):Prop:=s.mF/\a.ok=true/\b.ok=true/\s.b9.length<=3900 /\
 ∀ v t:G,(v=s.w a/\t=s.w b)\/(v=s.w b/\t=s.w a)->s.sU v=true->yw s [t]/\(qX s [t]).length<=1000/\(gC ⟨s.bc,[]⟩ (s.iH v.id).home d t []).isSome=true
theorem OB(h:sU ⟨sl,tr⟩ t=true):t.kind=1/\∃ i:Nat,t.id=(i:Int)/\∃ hi:i<sl.length,iH ⟨sl,tr⟩ t.id=sl[i]:=by
 unfold sU uG at h;rw[aW,aW]at h;let⟨m,hm⟩:=bQ.1 h.1.2;let⟨q,we,hq,nj⟩:=gj hm;grind [pq]
def lQ(d:Nat):Nat->ao->Z bZ->Y (ao×Int)
 | 0,_,_=>none
 |_+1,s,[]=>some (s,0)
 |f+1,s,e::l=>open Classical in if Kj d s e.left e.right/\l.length<=7000/\(s.mG e.left e.right).1.length<=1000 then (if (s.mG e.left e.right).2.1=0 then lQ d f (s.mG e.left e.right).2.2 ((s.mG e.left e.right).1++l)else some ((s.mG e.left e.right).2.2,(s.mG e.left e.right).2.1))else none
end ao
def zks{A B:Z α}{x y:α}(hn:n=A.length):kF (A++x::B) n [y]=A++y::B:=by
 subst hn
 induction A with
 |nil=>cases B<;>rfl
 |cons a A ih=>rw[dx,aL,zfn,ih];rfl
def zAl(HF:Z (Nat×Obj))(l:Z bZ)(H:PT Obj):Prop:=(∀ p∈HF,H.get p.1=some p.2)/\∃ (Rw gen:Nat) (cap:Y Nat) (rows:Z bZ) (x:Bool),5<=Rw/\Rw≠6/\Rw≠7 /\
 H.get 4=some (jw (.own Rw gen 0 l.length cap))/\H.get Rw=some (.arr 10 gen (rows.map di) x false true)/\rows.take l.length=l.reverse/\l.length<=rows.length/\∀ c,cap=some c->c=rows.length
def zQV(HF:Z (Nat×Obj))(l:Z bZ)(e:Z V)(T:PT V)(H:PT Obj)(n:Nat):Prop :=
 zAl HF l H/\T.get 8=some (.ptr 4 0 0)/\∃ id,T.get 13=some (.ptr id 0 0)/\7<id/\id<n/\H.get id=some (box e)
def zi2(yv:∀ p∈HF,p.1≠7){l:Z bZ}(h:zAl HF l H):zAl HF l (H.set 7 o):=by
 let⟨M,Rw,gen,cap,rows,x,O,h3,h4,h5,h6,h7⟩:=h;exact⟨λp hp=>by rw[PT.cZ,if_neg (λe=>yv p hp e)];exact M p hp,Rw,gen,cap,rows,x,O,h3,h4,by rw[PT.cZ,if_neg (by omega)];exact h5,by rw[PT.cZ,if_neg h4];exact h6,h7⟩
theorem zqN{l:Z bZ}(hv:H.get n=none){o2:Obj}(h:zAl HF l H):zAl HF l ((H.set n o).set n o2):=by
 let⟨M,Rw,gen,cap,rows,x,O,h3,h4,h5,h6,h7⟩:=h
 have key:∀ (i:Nat) (q:Obj),H.get i=some q->((H.set n o).set n o2).get i=some q:=λi q hq=>by
  have:i≠n:=λe=>by rw[e,hv]at hq;cases hq
  simp_all
 exact⟨λp hp=>key _ _ (M p hp),Rw,gen,cap,rows,x,O,h3,h4,key _ _ h5,key _ _ h6,h7⟩
theorem V.zo7{a:V}(h:a.pure=true):a.Ai A=true:=by
 have h3:=V.dU (A:=A) h;cases a<;>first|exact h3|cases h
def Li(v:V):Bool:=match v with
 |.tuple [a,b]=>et a.pure b.pure
 |_=>false
@[simp] def zIl {a b:V}:Li (.tuple [a,b])=et a.pure b.pure:=(rfl)
theorem X9{v:V}(h:Li v=true):∃ a b,v=.tuple [a,b]/\a.pure=true/\b.pure=true:=by
 unfold Li at h;grind [dz]
theorem zkp{v:V}(h:Li v=true):v.sS A=true:=by
 obtain⟨a,b,rfl,ha,hb⟩:=X9 h;show ([a,b].all (V.Ai A))=true;grind [V.zo7,Bool.and_self]
theorem aS.zx0{cp:HS}{vs:Z V}{v:V}(h:aS I P f vs C v cp)(hv:Li v=true)(eN:∀ id o,C.H.get id=some o->cp.H.get id=some o)
 (aE:∀ id,id<C.n->C.H.get id=none->cp.H.get id=none):aS I P f vs C v C:=by
 obtain⟨a,b,rfl,ha,hb⟩:=X9 hv;intro X w F μ xs hR hD hO hA;have Oy:pP X cp:=λid W=>aE id (jN λhle=>hD.2 id hle W) (hO id W);refine CallsIn.mono (h X w F μ xs hR hD Oy hA) λe w' he=>?_
 cases e with
 | returned x =>
   let⟨F1,μ1,g1,g2,g3⟩:=he;obtain⟨ys,rfl,cd,hc⟩:=dZ.qF I g2
   refine⟨F1,μ,⟨λid g m hm=>cu (hR.lt id g m hm) g3.size,g1.BR,λid o ho=>?_,hR.inj,hR.zL,g1.gl⟩,.tuple _ ys cd λi v hi=>?_,
    ⟨g3.io,g3.size,g3.bw,g3.fm,g3.CQ,λ_ _ _ hm=>hm,λb hb=>.inl hb,λ_ hh=>hh,λ_ _ _=>rfl,λ_ _ hh=>hh,λid g m hm=>.inr ⟨id,g,m,hm,rfl⟩⟩⟩
   exact(hR.obj id o ho).part (g1.obj id o (eN id o ho)) g3.mm;rcases i with _|_|i;cases hi;exact .pure (dZ.CF I (hc 0 a rfl) ha);cases hi;exact .pure (dZ.CF I (hc 1 b rfl) hb);simp at hi
 |panicked c=>exact he
 |outgrown=>exact he
end Go.J
set_option maxRecDepth 100000
set_option maxHeartbeats 4000000
namespace Go.J
open bo (enc)
structure oF extends EmbD where
 s:Nat
 cs:List V
 tz:List V
 ds:List V
structure oF.Good(D:oF):Prop where
 ol:D.OL.map Prod.fst=List.range D.k
 zEN:D.cJ.map Prod.fst=List.range D.k'
 le:D.k<=D.k'
 RK:∀ p∈D.OL,p.2.in (cx D.OL)=true
 zo4:∀ p∈D.cJ,p.2.in (cx D.cJ)=true/\p.2.fz=false
 v0:D.v0.sS (cx D.cJ)=true
 eb:∀ v∈D.eb,v.sS (cx D.OL)=true
 lj:(D.s,Obj.arr D.ds.length 0 [D.cs] true false false)∈D.OL
 HP:(D.s,Obj.arr D.ds.length 0 [D.tz] true false false)∈D.cJ
 len:D.cs.length=D.ds.length
 E0:D.tz.length=D.ds.length
 so:wK 0 D.cs=true
 zNS:wK 0 D.tz=true
 same:∀ j:Nat,D.tz[j]?=some (.sym j)->D.cs[j]?=some (.sym j)
 ns:∀ p∈D.OL,p.1≠D.s->p.2.ns=true
 ns':∀ p∈D.cJ,p.1≠D.s->p.2.ns=true
 nv:D.v0.ns=true
 na:∀ v∈D.eb,v.ns=true
structure oF.Fits(D:oF)(vs:List V)(C:HS):Prop where
 args:D.eb.map (V.cw D.π)=vs
 inj:∀ i j,i<D.k->j<D.k->D.π i=D.π j->i=j
 obj:∀ p∈D.OL,C.H.get (D.π p.1)=some (mV D.s D.ds D.π p)
 zDw:∀ i,i<D.k'-D.k->C.H.get (C.n+i)=none
 lt:∀ i,i<D.k->D.π i<C.n
 sz:D.ds.length<=gB
 cell:∀ d∈D.ds,d.mY=true
def oF.hp(D:oF)(C:HS):HS:=zxF D.s D.ds C D.k D.k' D.π D.cJ
def oF.vl(D:oF)(C:HS):V:=D.v0.cw (news C.n D.k D.π)
def fu(cI:Z V->HS->Y oF):Spec:=λvs C=>ob (cI vs C) λD=>some (D.vl C,D.hp C)
@[simp] def zHJ {cI:Z V->HS->Y oF} {vs:Z V} {C:HS} {Q:V×HS->Prop}:BO (fu cI vs C) Q=BO (cI vs C) λD=>Q (D.vl C,D.hp C):=by
  show ok (fu cI vs C) Q=ok (cI vs C) λD=>Q (D.vl C,D.hp C);simp only[fu,iM,dL]
def zjB{s:Nat}{ds:Z V}{C:HS}{k k':Nat}{π:Nat->Nat}{cJ:Z (Nat×Obj)}:Kept C (zxF s ds C k k' π cJ) where
 log i hi:=eY _ hi
 obj i o ho hn:=by
  show (yH C.H _).get i=some o
  rw[Jq (λp hp e=>hn (by
   obtain⟨q,hq,rfl⟩:=aF.1 hp
   exact dQ _ (aF.2 ⟨q,hq,e⟩)))]
  exact ho
 le:=fG ..
 hm i hi:=X4 hi _
theorem ZC{I:Nat->Value}{P:Program}{f:FuncId}{fn:Func}{sc:SC}{T:PT V}{D:oF}(hρ:J.Good I)(hP:P.follows .mixedOrders=true)(hN:vX P)(hf:P.funcs[f]?=some fn)(hb:fn.body.bind aV=some sc)(he:jH fn.ntmps D.eb 0 .leaf=some T)
 (hg:D.Good) (h:∀ ρ',J.Good ρ'->∃ E,E.P=P/\bK ρ' E/\Wp ρ' E D.k fn.ntmps sc T { H:=dP D.OL,n:=D.k,log:=[] } (Leaves P fn (aJ D.k D.v0 D.cJ))) {vs:Z V} {C:HS} (b4:D.Fits vs C) :
 aS I P f vs C (D.vl C) (D.hp C):=by
 rw[<- b4.args];refine zhx (s:=D.s) (sz:=D.ds.length) (cs:=D.cs) (tz:=D.tz) (ds:=D.ds) hρ hf hb he (λρ' fI=>?_) hg.ol hg.zEN hg.le hg.RK hg.zo4 hg.v0 hg.eb hg.lj hg.HP hg.len hg.E0 b4.sz hg.so hg.zNS b4.cell hg.same hg.ns hg.ns' hg.nv hg.na b4.inj b4.obj b4.zDw b4.lt;grind [Eb]
theorem Uo{I:Nat->Value}{P:Program}{f:FuncId}{fn:Func}{sc:SC}{T:PT V}{D:oF}{KK:V->HS->Prop}(hρ:J.Good I)(hP:P.follows .mixedOrders=true)(hN:vX P)(hf:P.funcs[f]?=some fn)(hb:fn.body.bind aV=some sc)(he:jH fn.ntmps D.eb 0 .leaf=some T)
 (hg:D.Good) (h:∀ ρ',J.Good ρ'->∃ E,E.P=P/\bK ρ' E/\Wp ρ' E D.k fn.ntmps sc T { H:=dP D.OL,n:=D.k,log:=[] } (Leaves P fn KK)) (hKK:∀ v C,KK v C->aJ D.k D.v0 D.cJ v C\/wH D.k D.v0 D.cJ v C) {vs:Z V} {C:HS} (b4:D.Fits vs C) :
 aS I P f vs C (D.vl C) (D.hp C):=by
 rw[<- b4.args];refine zhx (s:=D.s) (sz:=D.ds.length) (cs:=D.cs) (tz:=D.tz) (ds:=D.ds) hρ hf hb he (λρ' fI=>?_) hg.ol hg.zEN hg.le hg.RK hg.zo4 hg.v0 hg.eb hg.lj hg.HP hg.len hg.E0 b4.sz hg.so hg.zNS b4.cell hg.same hg.ns hg.ns' hg.nv hg.na b4.inj b4.obj b4.zDw b4.lt;grind [zG8,Eb]
def Valid.sym{I:Nat->Value}{P:Program}{f:Nat}{cI:Z V->HS->Y oF}(hf:vM P f)(h:∀ vs C D,cI vs C=some D->aS I P f vs C (D.vl C) (D.hp C)):Valid I P f (fu cI) where
 fn:=hf
 ok:=by intro vs C v a9 hq;simp only[fu,aC]at hq;let⟨D,hD,hq⟩:=hq;cases hq;exact h _ _ _ hD
 kept:=by
  intro vs C q hq;simp only[fu,aC]at hq;let⟨D,hD,hq⟩:=hq;cases hq;exact zjB
def zr(cI:Z V->HS->Y oF):Spec:=λvs C=>ob (cI vs C) λD=>gd (Li D.v0) (some (D.v0,C))
theorem znt {I:Nat->Value} {P:Program} {f:FuncId} {fn:Func} {sc:SC} {T:PT V} {D:oF} (hρ:J.Good I) (hP:P.follows .mixedOrders=true) (hN:vX P) (hf:P.funcs[f]?=some fn) (hb:fn.body.bind aV=some sc) (he:jH fn.ntmps D.eb 0 .leaf=some T)
 (hg:D.Good) (ho:D.cJ=D.OL) (hr:Li D.v0=true) (h:∀ ρ',J.Good ρ'->∃ E,E.P=P/\bK ρ' E/\Wp ρ' E D.k fn.ntmps sc T { H:=dP D.OL,n:=D.k,log:=[] } (Leaves P fn (aJ D.k D.v0 D.cJ))) {vs:Z V} {C:HS} (b4:D.Fits vs C) :
 aS I P f vs C D.v0 C:=by
 have key:=ZC hρ hP hN hf hb he hg h b4;rw[show D.vl C=D.v0 from V.jq (zkp hr)]at key;have cG:∀ i,cx D.OL i=true->i<D.k:=by intro i hi;let⟨q,hq,S3⟩:=dN.1 hi;rw[beq_true]at S3;exact dh.1 (by rw[<- hg.ol];exact aF.2 ⟨q,hq,S3⟩)
 have hx:∀ id,(D.hp C).H.get id=C.H.get id:=by
  intro id;refine Ey (λp hp=>?_) id;obtain⟨p0,qe,rfl⟩:=aF.1 hp;have CH:p0∈D.OL:=by rw[<- ho];exact qe
  have h0:p0.1<D.k:=cG _ (dN.2 ⟨p0,CH,beq_true.2 rfl⟩);show C.H.get (news C.n D.k D.π p0.1)=some (mV D.s D.ds (news C.n D.k D.π) p0);rw[show news C.n D.k D.π p0.1=D.π p0.1 from if_pos h0,b4.obj p0 CH];refine congrArg some ?_;have hc:=Obj.P7 (A:=cx D.OL) (π:=news C.n D.k D.π) (σ:=D.π) (λi hi=>if_pos (cG i hi)) (hg.RK p0 CH);unfold mV;split;rename_i e;have e2:p0.2=Obj.arr D.ds.length 0 [D.cs] true false false:=by have eV:(D.OL.map Prod.fst).Nodup:=(by rw[hg.ol];exact gQ);have e3:=wz eV CH;have e4:=wz eV hg.lj;grind
  rw[e2]at hc ⊢;have C0:D.cs.map (V.jr (news C.n D.k D.π))=D.cs.map (V.jr D.π):=by simp_all
  show Obj.arr _ _ [mix D.π D.cs D.ds] _ _ _=Obj.arr _ _ [mix _ D.cs D.ds] _ _ _;rw[Qh C0];grind
 grind [aS.zx0,id]
def Valid.zr{I:Nat->Value}{P:Program}{f:Nat}{cI:Z V->HS->Y oF}(hf:vM P f)(h:∀ vs C D,cI vs C=some D->Li D.v0=true->aS I P f vs C D.v0 C):Valid I P f (zr cI) where
 fn:=hf
 ok:=by intro vs C v a9 hq;simp only[J.zr,aC,bI]at hq;let⟨D,hD,hp,hq⟩:=hq;cases hq;exact h _ _ _ hD hp
 kept:=by
  intro vs C q hq;simp only[J.zr,aC,bI]at hq;let⟨D,hD,hp,hq⟩:=hq;cases hq;exact .refl _
@[simp] def zKH {cI:Z V->HS->Y oF} {vs:Z V} {C:HS} {Q:V×HS->Prop}:BO (J.zr cI vs C) Q=BO (cI vs C) λD=>Li D.v0=true/\Q (D.v0,C):=by
  show ok (J.zr cI vs C) Q=ok (cI vs C) λD=>Li D.v0=true/\Q (D.v0,C);simp only[J.zr,iM,vO,dL]
end Go.J
set_option maxHeartbeats 1000000
namespace Go.J
open bo (enc)
structure MG where
 a:Nat
 b:Nat
 n:Nat
 hn:n<=1000
def MG.add(g:MG)(m:Nat):MG:=⟨g.a,g.b+m,g.n,g.hn⟩
@[simp] def MG.zOT {a b n m:Nat} {h:n<=1000}:MG.add ⟨a,b,n,h⟩ m=⟨a,b+m,n,h⟩:=(rfl)
@[simp] def zyH {k:Nat}:(V.sym k).mY=true:=(rfl)
@[simp] def MG.add_zero {g:MG}:g.add 0=g:=(rfl)
def MG.add_add{g:MG}{m n:Nat}:(g.add m).add n=g.add (m+n):=by
 cases g;simp[eH]
def jT:Nat->Nat->Z V
 |_,0=>[]
 |k,n+1=>.sym k::jT (k+1) n
@[simp] def zb0:∀ {k n:Nat},(jT k n).length=n
  |_,0=>rfl
  |k,n+1=>by rw[jT,aL,zb0]
def NC:∀ {k n:Nat},wK k (jT k n)=true
 |_,0=>rfl
 | k,n+1=>by
   rw[jT,wK,NC,fT,iQ];exact .inl (beq_true.2 rfl)
@[simp] def zeK:∀ {k n:Nat},Ka (jT k n)=true
  |_,0=>rfl
  |k,n+1=>by rw[jT,zme,zeK];rfl
def ZE{A:Nat->Bool}:∀ {k n:Nat},(jT k n).all (V.Ai A)=true
 |_,0=>rfl
 |k,n+1=>by rw[jT,iG,ZE];rfl
theorem I8{π:Nat->Nat}:∀ {k n:Nat} {ds:Z V},ds.length=n->mix π (jT k n) ds=ds
 |_,0,[],_=>rfl
 |_,0,_::_,h=>by cases h
 |_,n+1,[],h=>by cases h
 | k,n+1,d::ds,h=>by
   rw[jT,mix,I8 (by simpa using h)]
def mB(i j:Nat)(sl:Z Slot)(tr:Z Change)(g:MG):Obj:=.arr (g.n+3) 0 [.sym 0::.own i g.a 0 sl.length none::.own j g.b 0 tr.length none::jT 3 g.n] true false false
def mC(i j:Nat)(sl:Z Slot)(tr:Z Change)(g:MG):Z V:=.sym 0::.own i g.a 0 sl.length none::.own j g.b 0 tr.length none::jT 3 g.n
def mS(sl:Z Slot)(g:MG):Obj:=.arr 8 g.a (sl.map dK) false false true
def mT(tr:Z Change)(g:MG):Obj:=.arr 10 g.b (tr.map bW) false false true
section
variable {i j:Nat}{sl:Z Slot}{tr:Z Change}{g:MG}{A:Nat->Bool}{π:Nat->Nat}
@[simp] def zPU:mB i j sl tr g=.arr (g.n+3) 0 [.sym 0::.own i g.a 0 sl.length none::.own j g.b 0 tr.length none::jT 3 g.n] true false false:=(rfl)
@[simp] def zPS:mS sl g=.arr 8 g.a (sl.map dK) false false true:=(rfl)
@[simp] def zPR:mT tr g=.arr 10 g.b (tr.map bW) false false true:=(rfl)
theorem sG:(mS sl g).cw π=mS sl g:=by
 simp_all
theorem sF:(mT tr g).cw π=mT tr g:=by
 simp_all
def RB:(mS sl g).in A=true:=zfe sl
def RA:(mT tr g).in A=true:=Z7 tr
theorem zie(hi:A i=true)(hj:A j=true):(mB i j sl tr g).in A=true:=by
 simp_all [jT,au,ZE]
def MJ:(mC i j sl tr g).length=g.n+3:=by simp[mC]
def Vo:wK 0 (mC i j sl tr g)=true:=by
 simp only[mC,wK,NC,V.ns,Bool.or_true,fT];rfl
theorem zas{i' j':Nat}{cW:Z Slot}{xZ:Z Change}{g':MG}(hn:g'.n=g.n)(k:Nat)(h:(mC i' j' cW xZ g')[k]?=some (.sym k)):(mC i j sl tr g)[k]?=some (.sym k):=by
 grind [mC,List.getElem?_cons_succ]
end
mutual
theorem VY:∀ t:G,IU (aA t)=true
 | .mk k n i h l=>by
   have:=YH l;simp only[aA,IU,V.ns,fT,gG];exact this
theorem YH:∀ l:Z G,wy (sH l)=true
 | []=>rfl
 | t::l=>by
   rw[sH,wy,VY t,YH l];rfl
end
def F5(l:Z G):wy (l.map aA)=true:=CG λe he=>by
 obtain⟨t,_,rfl⟩:=aF.1 he;exact VY t
@[simp] def zDR (t:G):(enc t:V).ns=true:=VY t
theorem Vn{sl:Z Slot}{g:MG}:(mS sl g).ns=true:=CG λe he=>by
 obtain⟨x,_,rfl⟩:=aF.1 he;simp only[dK,IU,V.ns,F5,fT,gG]
theorem Vm{tr:Z Change}{g:MG}:(mT tr g).ns=true:=CG λe he=>by
 obtain⟨x,_,rfl⟩:=aF.1 he;simp only[bW,IU,V.ns,F5,fT,gG]
open Classical in
def Tf(o:Obj):Y (V×V×V×{l:Z V // l.length<=1000}):=match o with
 |.arr sz 0 [d::x::y::post] true false false=>gd (et (Nat.beq sz (dB post+3)) (Ka (d::x::y::post))) (if h:post.length<=1000 then some (d,x,y,⟨post,h⟩)else none)
 |_=>none
theorem Oe{o:Obj}{q:V×V×V×{l:Z V // l.length<=1000}}(h:Tf o=some q):o=.arr (q.2.2.2.1.length+3) 0 [q.1::q.2.1::q.2.2.1::q.2.2.2.1] true false false/\∀ c∈q.1::q.2.1::q.2.2.1::q.2.2.2.1,c.mY=true:=by
 unfold Tf at h;grind [bI,dz,beq_true,dH,O5]
@[simp] theorem zLh {d x y:V} {post:Z V} {n:Nat} (h:post.length<=1000):Tf (.arr n 0 [d::x::y::post] true false false)=gd (et (Nat.beq n (dB post+3)) (Ka (d::x::y::post))) (some (d,x,y,⟨post,h⟩)):=by
  grind [Tf]
def D3 (C:HS) (v:V):Y (Nat×Nat×Z Slot):=match v with
 | .own c g 0 n none=>ob (C.H.get c) λo=>(match o with
   |.arr 8 g' es false false true=>gd (et (Nat.beq g' g) (Nat.beq n (dB es))) (ob (eZ es:Y (Z Slot)) λsl=>some (c,g,sl))
   |_=>none)
 |_=>none
theorem NG{C:HS}{v:V}{q:Nat×Nat×Z Slot}(h:D3 C v=some q):v=.own q.1 q.2.1 0 q.2.2.length none/\C.H.get q.1=some (.arr 8 q.2.1 (q.2.2.map dK) false false true):=by
 unfold D3 at h;split at h;simp only[aC]at h;let⟨o,ho,h⟩:=h;split at h;simp only[bI,aC,dz,beq_true,dH]at h;obtain⟨⟨rfl,rfl⟩,sl,rn,h⟩:=h;cases h;have:=iZ rn;simp_all;cases h;cases h
def D2 (C:HS) (v:V):Y (Nat×Nat×Z Change):=match v with
 | .own d g 0 n none=>ob (C.H.get d) λo=>(match o with
   |.arr 10 g' es false false true=>gd (et (Nat.beq g' g) (Nat.beq n (dB es))) (ob (eZ es:Y (Z Change)) λtr=>some (d,g,tr))
   |_=>none)
 |_=>none
theorem Nz{C:HS}{v:V}{q:Nat×Nat×Z Change}(h:D2 C v=some q):v=.own q.1 q.2.1 0 q.2.2.length none/\C.H.get q.1=some (.arr 10 q.2.1 (q.2.2.map bW) false false true):=by
 unfold D2 at h;split at h;simp only[aC]at h;let⟨o,ho,h⟩:=h;split at h;simp only[bI,aC,dz,beq_true,dH]at h;obtain⟨⟨rfl,rfl⟩,tr,ht,h⟩:=h;cases h;have:=iZ ht;simp_all;cases h;cases h
def zD7(c g n:Nat)(o:Obj):Y (Nat×Nat×Z Slot):=match o with
 |.arr 8 g' es false false true=>gd (et (Nat.beq g' g) (Nat.beq n (dB es))) (ob (eZ es:Y (Z Slot)) λsl=>some (c,g,sl))
 |_=>none
@[simp] def zD6 {C:HS} {c g n:Nat}:D3 C (.own c g 0 n none)=ob (C.H.get c) (zD7 c g n):=rfl
@[simp] theorem zKV {c g g' n:Nat} {sl:Z Slot}:zD7 c g n (.arr 8 g' (sl.map dK) false false true)=gd (et (Nat.beq g' g) (Nat.beq n sl.length)) (some (c,g,sl)):=by
  show gd (et (Nat.beq g' g) (Nat.beq n (dB (sl.map dK)))) (ob (eZ (sl.map dK):Y (Z Slot)) λsl=>some (c,g,sl))=_;simp_all
def zDV(c g n:Nat)(o:Obj):Y (Nat×Nat×Z Change):=match o with
 |.arr 10 g' es false false true=>gd (et (Nat.beq g' g) (Nat.beq n (dB es))) (ob (eZ es:Y (Z Change)) λsl=>some (c,g,sl))
 |_=>none
@[simp] def zDU {C:HS} {c g n:Nat}:D2 C (.own c g 0 n none)=ob (C.H.get c) (zDV c g n):=rfl
@[simp] theorem zKz {c g g' n:Nat} {tr:Z Change}:zDV c g n (.arr 10 g' (tr.map bW) false false true)=gd (et (Nat.beq g' g) (Nat.beq n tr.length)) (some (c,g,tr)):=by
  show gd (et (Nat.beq g' g) (Nat.beq n (dB (tr.map bW)))) (ob (eZ (tr.map bW):Y (Z Change)) λsl=>some (c,g,sl))=_;simp_all
def Jt(off:Nat)(v:V):Y Nat:=match v with
 |.ptr b 0 o=>gd (Nat.beq o off) (some b)
 |_=>none
theorem Kr{off:Nat}{v:V}{b:Nat}(h:Jt off v=some b):v=.ptr b 0 off:=by
 unfold Jt at h;grind [bI,beq_true]
@[simp] theorem zH8 {b off:Nat}:Jt off (.ptr b 0 off)=some b:=by
  show gd (Nat.beq off off) (some b)=_;simp_all
theorem CJ{s i j:Nat}{d x y:V}{post:Z V}{π:Nat->Nat}{sl:Z Slot}{tr:Z Change}{g:MG}(hn:post.length=g.n):mV s (d::x::y::post) π (s,mB i j sl tr g)=.arr (g.n+3) 0 [d::.own (π i) g.a 0 sl.length none::.own (π j) g.b 0 tr.length none::post] true false false:=by
 show (if s=s then Obj.arr (g.n+3) 0 [d::.own (π i) g.a 0 sl.length none::.own (π j) g.b 0 tr.length none::mix π (jT 3 g.n) post] true false false else _)=_;grind [I8]
def zfq(s:Z V->Y V)(vs:Z V)(C:HS):Y (V×HS):=ob (s vs) λv=>some (v,C)
section
variable {I:Nat->Value}{P:Program}
def zfp{f:FuncId}{vs:Z V}{C:HS}{v:V}(h:∀ w F μ xs,Nk I w F μ vs xs->Gl I w F->Calls P f xs w λe w'=>∃ x,e=.returned x/\fJ I w' (λ_=>False) v x/\Io w w'/\w.heap.size<=w'.heap.size/\∀ b,b<w.heap.size->w'.heap[b]?=w.heap[b]?):aS I P f vs C v C:=by
 intro X w F μ xs hR hD hO hA;refine CallsIn.mono (callsIn_wide.2 (h w F μ xs hA hR.gl)) λe w' he=>?_;obtain⟨x,rfl,W,D0,cd,hk⟩:=he;let⟨g1,g2⟩:=alone hR D0 cd hk;exact⟨_,μ,g1,.pure (W.mono I (λ_ h=>h.elim) λ_ h=>h.elim),g2⟩
def Valid.out{f:FuncId}{s:Z V->Y V}(hf:vM P f)(h:∀ vs v,s vs=some v->∀ w F μ xs,Nk I w F μ vs xs->Gl I w F->Calls P f xs w λe w'=>∃ x,e=.returned x/\fJ I w' (λ_=>False) v x/\Io w w'/\w.heap.size<=w'.heap.size/\∀ b,b<w.heap.size->w'.heap[b]?=w.heap[b]?):Valid I P f (zfq s) where
 fn:=hf
 ok:=by intro vs C v a9 hq;simp only[zfq,aC]at hq;let⟨v',hv,hq⟩:=hq;cases hq;exact zfp λw F μ xs=>h vs _ hv w F μ xs
 kept:=by
  intro vs C q hq;simp only[zfq,aC]at hq;let⟨v',hv,hq⟩:=hq;cases hq;exact Kept.refl _
end
end Go.J
set_option maxHeartbeats 1000000
namespace Go.J
open bo (enc)
def oF.KC{D:oF}{vs:Z V}{C:HS}(ids:Z Nat)(hk:D.k=ids.length)(hπ:D.π=λi=>ids.getD i 0)(eV:cj ids=true)(cG:ids.all (λx=>Nat.blt x C.n)=true)(ha:D.eb.map (V.cw D.π)=vs)(ho:∀ p∈D.OL,C.H.get (D.π p.1)=some (mV D.s D.ds D.π p))
 (np:D.k'=D.k) (cd:D.ds.length<=gB) (hc:∀ d∈D.ds,d.mY=true):D.Fits vs C:=by
 refine⟨ha,λi j hi hj e=>?_,ho,λi hi=>?_,λi hi=>?_,cd,hc⟩;rw[hk]at hi hj;rw[hπ]at e;exact Dy eV hi hj e;omega;rw[hk]at hi;rw[hπ];simp only;rw[fS hi];exact gz.1 (au.1 cG _ (ax hi))
def fD(sl:Z Slot)(tr:Z Change)(g:MG):Z (Nat×Obj):=[(0,jw (.ptr 1 0 1)),(1,mB 2 3 sl tr g),(2,mS sl g),(3,mT tr g)]
def HW(args:Z V)(sl cW:Z Slot)(tr xZ:Z Change)(g g':MG)(ds:Z V)(r:V)(a b c d:Nat):oF where
 k:=4
 k':=4
 π:=λi=>[a,b,c,d].getD i 0
 OL:=fD sl tr g
 cJ:=fD cW xZ g'
 eb:=.ptr 0 0 0::args
 v0:=r
 s:=1
 cs:=mC 2 3 sl tr g
 tz:=mC 2 3 cW xZ g'
 ds:=ds
def GN (F:Z Slot->Z Change->Z V->Y (V×Z Slot×Z Change)) (vs:Z V) (C:HS):Y oF:=match vs with
 |.ptr a 0 0::args=>ob (C.H.get a) λoa=>ob (ee oa) λva=>ob (Jt 1 va) λb=>ob (C.H.get b) λo=>ob (Tf o) λq=>ob (D3 C q.2.1) λs=>ob (D2 C q.2.2.1) λt=>ob (F s.2.2 t.2.2 args) λr =>
  gd (et (cj [a,b,s.1,t.1]) (et ([a,b,s.1,t.1].all λx=>Nat.blt x C.n) (et (bX args) (et (IU args) (et (r.1.sS λ_=>false) r.1.ns)))))
   (some (HW args s.2.2 r.2.1 t.2.2 (t.2.2++r.2.2) ⟨s.2.1,t.2.1,q.2.2.2.1.length,q.2.2.2.2⟩ ⟨s.2.1,t.2.1+r.2.2.length,q.2.2.2.1.length,q.2.2.2.2⟩ (q.1::q.2.1::q.2.2.1::q.2.2.2.1) r.1 a b s.1 t.1))
 |_=>none
def zh1{sl:Z Slot}{tr:Z Change}{g:MG}:∀ p∈fD sl tr g,p.2.in (cx (fD sl tr g))=true/\p.2.fz=false:=by
 intro p hp;have hd:∀ i,i<4->cx (fD sl tr g) i=true:=λi hi=>by rcases(show i=0\/i=1\/i=2\/i=3 by omega)with rfl|rfl|rfl|rfl<;>rfl
 simp only[fD,ay,aU,or_false]at hp;rcases hp with rfl|rfl|rfl|rfl;exact⟨rfl,rfl⟩;exact⟨zie (hd 2 (by omega)) (hd 3 (by omega)),rfl⟩;exact⟨RB,rfl⟩;exact⟨RA,rfl⟩
def zh0{sl:Z Slot}{tr:Z Change}{g:MG}:∀ p∈fD sl tr g,p.1≠1->p.2.ns=true:=by
 intro p hp cg;simp only[fD,ay,aU,or_false]at hp;rcases hp with rfl|rfl|rfl|rfl;rfl;exact absurd rfl cg;exact Vn;exact Vm
def zoC{args:Z V}{sl cW:Z Slot}{tr xZ:Z Change}{g g':MG}{ds:Z V}{r:V}{a b c d:Nat}(GW:ds.length=g.n+3)(hg:g'.n=g.n)(ha:bX args=true)(hn:IU args=true)(hr:(r.sS λ_=>false)=true)(hrn:r.ns=true):(HW args sl cW tr xZ g g' ds r a b c d).Good:=by
 refine⟨rfl,rfl,af _,λp hp=>(zh1 p hp).1,zh1,V.Bq (λ_ h=>by cases h) hr,?_,?_,?_,MJ.trans GW.symm,(MJ.trans (by rw[hg])).trans GW.symm,Vo,Vo,zas hg,zh0,zh0,hrn,?_⟩;intro v hv;rcases ay.1 hv with rfl|hv;rfl;exact V.dU (jo ha v hv);show (1,Obj.arr ds.length 0 [mC 2 3 sl tr g] true false false)∈fD sl tr g;rw[GW];exact aD _ (aB ..);show (1,Obj.arr ds.length 0 [mC 2 3 cW xZ g'] true false false)∈fD cW xZ g';rw[GW,<- hg];exact aD _ (aB ..);intro v hv;rcases ay.1 hv with rfl|hv;rfl;exact xw hn v hv
def Kt {F:Z Slot->Z Change->Z V->Y (V×Z Slot×Z Change)} {vs:Z V} {C:HS} {D:oF} (h:GN F vs C=some D) :
 ∃ args sl tr g r cW ex ds a b c d,F sl tr args=some (r,cW,ex)/\D=HW args sl cW tr (tr++ex) g (g.add ex.length) ds r a b c d/\bX args=true/\(r.sS λ_=>false)=true/\D.Good/\D.Fits vs C:=by
 unfold GN at h;split at h;rename_i a args;simp only[aC,bI,dz]at h;let⟨oa,J0,va,OK,b,hb,o,ho,q,hq,s,cp,t,ht,⟨r,cW,ex⟩,hr,⟨M,O,h3,h4,h5,h6⟩,h⟩:=h;cases h;have e1:=uJ OK;have e2:=Kr hb;let⟨e3,e7⟩:=Oe hq;let⟨e4,g4⟩:=NG cp;let⟨e5,g5⟩:=Nz ht;let⟨c,ga,sl⟩:=s;let⟨d,gb,tr⟩:=t;let⟨x,y,z,post,du⟩:=q;simp only[dH]at e4 e5 g4 g5 M O hr h5 h6 e3 e7 ⊢;subst e4 e5 e2 e1 e3;refine⟨args,sl,tr,⟨ga,gb,post.length,du⟩,r,cW,ex,_,a,b,c,d,hr,rfl,h3,h5,zoC rfl rfl h3 h4 h5 h6,?_⟩;refine oF.KC [a,b,c,d] rfl rfl M O ?_ ?_ rfl ?_ e7;show (V.ptr 0 0 0::args).map (V.cw _)=_;rw[aX,NP h3];rfl;intro p hp;simp only[HW,fD,ay,aU,or_false]at hp;rcases hp with rfl|rfl|rfl|rfl;exact J0;show C.H.get b=_;rw[ho];exact congrArg some (CJ (s:=1) (i:=2) (j:=3) (π:=λi=>[a,b,c,d].getD i 0) (sl:=sl) (tr:=tr) (g:=⟨ga,gb,post.length,du⟩) rfl).symm;show C.H.get c=_;rw[g4];exact congrArg some (sG (sl:=sl) (g:=⟨ga,gb,post.length,du⟩) (π:=λi=>[a,b,c,d].getD i 0)).symm;show C.H.get d=_;rw[g5];exact congrArg some (sF (tr:=tr) (g:=⟨ga,gb,post.length,du⟩) (π:=λi=>[a,b,c,d].getD i 0)).symm;show post.length+3<=1000000;omega;cases h
section
variable {F:Z Slot->Z Change->Z V->Y (V×Z Slot×Z Change)}{args:Z V}{sl cW:Z Slot}{tr xZ:Z Change}{r x y z:V}{a b c d ga gb BQ BP n:Nat}{hh:n<=1000}{C:HS}{ds post:Z V}{g g':MG}
@[simp] def zN7:GN F (.ptr a 0 0::args) C=ob (C.H.get a) fun oa=>ob (ee oa) fun va=>ob (Jt 1 va) fun b=>ob (C.H.get b) fun o=>ob (Tf o) fun q=>ob (D3 C q.2.1) fun s=>ob (D2 C q.2.2.1) fun t=>ob (F s.2.2 t.2.2 args) fun r =>
      gd (et (cj [a,b,s.1,t.1]) (et ([a,b,s.1,t.1].all λx=>Nat.blt x C.n) (et (bX args) (et (IU args) (et (r.1.sS λ_=>false) r.1.ns)))))
       (some (HW args s.2.2 r.2.1 t.2.2 (t.2.2++r.2.2) ⟨s.2.1,t.2.1,q.2.2.2.1.length,q.2.2.2.2⟩ ⟨s.2.1,t.2.1+r.2.2.length,q.2.2.2.1.length,q.2.2.2.2⟩ (q.1::q.2.1::q.2.2.1::q.2.2.2.1) r.1 a b s.1 t.1)):=(rfl)
@[simp] def zLf:(HW args sl cW tr xZ g g' ds r a b c d).v0=r:=(rfl)
@[simp] def zE8:(HW args sl cW tr xZ g g' ds (.tuple []) a b c d).vl C=.tuple []:=(rfl)
@[simp] def zFa {e:Int}:(HW args sl cW tr xZ g g' ds (.int .i64 e) a b c d).vl C=.int .i64 e:=(rfl)
@[simp] def zE9 {L:Z (Z V)} {t:Bool} {e:Int}:(HW args sl cW tr xZ g g' ds (.tuple [.sl L t,.int .i64 e]) a b c d).vl C=.tuple [.sl L t,.int .i64 e]:=(rfl)
@[simp] def zFb (hn:post.length=n):(HW args sl cW tr xZ g ⟨BQ,BP,n,hh⟩ (x::y::z::post) r a b c d).hp C={ H:=(((C.H.set d (.arr 10 BP (xZ.map bW) false false true)).set c (.arr 8 BQ (cW.map dK) false false true)).set b (.arr (n+3) 0 [x::.own c BQ 0 cW.length none::.own d BP 0 xZ.length none::post] true false false)).set a (jw (.ptr b 0 1)),n:=C.n,log:=a::b::c::d::C.log }:=by
  show ({ H:=(((C.H.set d ((mT xZ ⟨BQ,BP,n,hh⟩).cw _)).set c ((mS cW ⟨BQ,BP,n,hh⟩).cw _)).set b (mV 1 (x::y::z::post) _ (1,mB 2 3 cW xZ ⟨BQ,BP,n,hh⟩))).set a _,n:=C.n+0,log:=_ }:HS)=_;rw[sG,sF,CJ hn];rfl
end
def zDO(sl:Z Slot)(tr:Z Change)(g:Y Nat):Z (Nat×Obj):=(0,zNV sl)::zNv 1 tr g
def zO6(args:Z V)(sl:Z Slot)(tr:Z Change)(g:Y Nat)(r:V)(c d:Nat):EmbD where
 k:=uK g 1
 k':=uK g 1
 π:=λi=>(c::zAL g d).getD i 0
 OL:=zDO sl tr g
 cJ:=zDO sl tr g
 eb:=.agg [.own 0 0 0 sl.length none,zNw 1 tr g]::args
 v0:=r
def usM (F:ao->Z V->Y V) (vs:Z V) (C:HS):Y EmbD:=match vs with
 |.agg [x,y]::args=>ob (zD5 C x) λs=>ob (zDT C y) λt=>ob (F ⟨s.2,t.2.1⟩ args) λr =>
  gd (et (cj (s.1::zAL t.2.2 t.1)) (et ((s.1::zAL t.2.2 t.1).all λx=>Nat.blt x C.n) (et (bX args) (et r.pure (gW C C.n)))))
   (some (zO6 args s.2 t.2.1 t.2.2 r s.1 t.1))
 |_=>none
def zDQ(sl:Z Slot)(tr:Z Change)(g:Y Nat)(sn:Z Int):Z (Nat×Obj):=[(0,jw (.ptr 1 0 0)),(1,uB sl tr g 4),(2,zNV sl),(3,.mp (sn.map vN))]++zNv 4 tr g
def zO7(args:Z V)(sl:Z Slot)(tr:Z Change)(g:Y Nat)(sn El:Z Int)(r:Bool)(a b c m d:Nat):EmbD where
 k:=uK g 4
 k':=uK g 4
 π:=λi=>([a,b,c,m]++zAL g d).getD i 0
 OL:=zDQ sl tr g sn
 cJ:=zDQ sl tr g El
 eb:=.ptr 0 0 0::args++[.map 3]
 v0:=.bool r
def uhM (F:Z Slot->Int->Z Int->G->Y (Bool×Z Int)) (vs:Z V) (C:HS):Y EmbD:=match vs with
 | [.ptr a 0 0,tv,.int .i64 h,.map m]=>ob (bo.dec tv:Y G) λty=>ob (C.H.get a) λoa=>ob (ee oa) λva=>ob (X7 va) λb=>ob (C.H.get b) λo=>ob (zD3 o) λq=>ob (zD5 C q.1) λs=>ob (zDT C q.2) λt =>
  ob (C.H.get m) λom=>ob (Xu om) λes=>ob (yD es) λsn=>ob (F s.2 h sn ty) λr =>
  gd (et (cj ([a,b,s.1,m]++zAL t.2.2 t.1)) (et (([a,b,s.1,m]++zAL t.2.2 t.1).all λx=>Nat.blt x C.n) (gW C C.n)))
   (some (zO7 [tv,.int .i64 h] s.2 t.2.1 t.2.2 sn r.2 r.1 a b s.1 m t.1))
 |_=>none
def zoc(l:Z V):Y (Nat×Nat×Nat):=match l with
 | [.ptr p 0 0,.ptr q 0 0,.ptr w 0 0]=>some (p,q,w)
 |_=>none
theorem zob{l:Z V}{q:Nat×Nat×Nat}(h:zoc l=some q):l=[.ptr q.1 0 0,.ptr q.2.1 0 0,.ptr q.2.2 0 0]:=by
 unfold zoc at h;grind
@[simp] def zK1 {p q w:Nat}:zoc [.ptr p 0 0,.ptr q 0 0,.ptr w 0 0]=some (p,q,w):=(rfl)
def intOf(v:V):Y Int:=match v with
 |.int .i64 n=>some n
 |_=>none
theorem zk1{v:V}{n:Int}(h:intOf v=some n):v=.int .i64 n:=by
 unfold intOf at h;grind
@[simp] def zII {n:Int}:intOf (.int .i64 n)=some n:=(rfl)
end Go.J
