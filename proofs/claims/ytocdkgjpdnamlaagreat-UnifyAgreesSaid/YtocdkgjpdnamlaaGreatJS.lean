import Derived.Test.YtocdkgjpdnamlaaGreatJK
import Derived.Test.YtocdkgjpdnamlaaGreatJQuiet
set_option linter.all false
noncomputable section
/- Functions that read variables of their caller: closures,and functions that are handed them,perhaps with a row. -/
namespace Go.J
open Enc (enc)
def zpp:Nat->List (List V)->List (Nat×Obj)
 |_,[]=>[]
 |i,c::l=>(i,box c)::zpp (i+1) l
def zn2:Nat->Nat->List V
 |_,0=>[]
 |i,n+1=>.ptr i 0 0::zn2 (i+1) n
@[simp] theorem zFu {i:Nat}:zpp i []=[]:=(rfl)
@[simp] theorem zzy {i:Nat} {c:List V} {l:List (List V)}:zpp i (c::l)=(i,box c)::zpp (i+1) l:=(rfl)
@[simp] theorem zxU {i:Nat}:zn2 i 0=[]:=(rfl)
@[simp] theorem zxV {i n:Nat}:zn2 i (n+1)=.ptr i 0 0::zn2 (i+1) n:=(rfl)
def zxO(g:Option Nat)(l:List V):List V:=match g with
 |none=>l
 |some g=>[.func g l]
@[simp] theorem zcn {l:List V}:zxO none l=l:=(rfl)
@[simp] theorem zcm {g:Nat} {l:List V}:zxO (some g) l=[.func g l]:=(rfl)
def BX (g:Option Nat) (l:List V):Option (List V):=match g with
 |none=>some l
 | some g=>(match l with
   | [.func g' l]=>gd (Nat.beq g' g) (some l)
   |_=>none)
@[simp] theorem zwt {l:List V}:BX none l=some l:=(rfl)
@[simp] theorem zws {g:Nat} {l:List V}:BX (some g) [.func g l]=some l:=by
  show gd (Nat.beq g g) (some l)=_;rw[beq_true.2 rfl];rfl
theorem KD{g:Option Nat}{l m:List V}(h:BX g l=some m):l=zxO g m:=by
 cases g with
 |none=>cases h;rfl
 | some g =>
   unfold BX at h;dsimp only at h;split at h
   . simp only[aD,beq_true]at h;obtain⟨rfl,h⟩:=h;cases h;rfl
   . cases h
def zkY(o:Obj):Option (List V):=match o with
 |.arr n 0 [c] true false false=>gd (et (Nat.beq n (aN c)) (c.all V.aI)) (some c)
 |_=>none
theorem zkX{o:Obj}{c:List V}(h:zkY o=some c):o=box c/\c.all V.aI=true:=by
 unfold zkY at h;split at h
 . simp only[aD,bA,beq_true]at h;obtain⟨⟨rfl,h1⟩,h⟩:=h;cases h;exact⟨rfl,h1⟩
 . cases h
@[simp] theorem zNd {n:Nat} {c:List V}:zkY (.arr n 0 [c] true false false)=gd (et (Nat.beq n (aN c)) (c.all V.aI)) (some c):=(rfl)
def qA(hs:HS):List V->Option (List (Nat×List V))
 | []=>some []
 |.ptr id 0 0::l=>ob (hs.H.get id) fun o=>ob (zkY o) fun c=>gd (Nat.blt id hs.n) (ob (qA hs l) fun r=>some ((id,c)::r))
 |_=>none
@[simp] theorem zwr {hs:HS}:qA hs []=some []:=by rw[qA]
@[simp] theorem zwq {hs:HS} {id:Nat} {l:List V}:qA hs (.ptr id 0 0::l)=ob (hs.H.get id) fun o=>ob (zkY o) fun c=>gd (Nat.blt id hs.n) (ob (qA hs l) fun r=>some ((id,c)::r)):=by rw[qA]
theorem Sm{hs:HS}:∀ {l:List V} {q:List (Nat×List V)},qA hs l=some q->l=q.map (fun p=>V.ptr p.1 0 0)/\∀ p∈q,hs.H.get p.1=some (box p.2)/\p.1<hs.n/\p.2.all V.aI=true:=by
 intro l
 induction l with
 |nil=>intro q h;rw[qA]at h;cases h;exact⟨rfl,fun p hp=>by cases hp⟩
 | cons v l ih =>
   intro q h;unfold qA at h
   grind [id,af,aD,dO,zkX]
def p9(v:V):List Nat:=match v with
 |.own id _ _ _ _=>[id]
 |_=>[]
@[simp] theorem ztD {id g o n:Nat} {c:Option Nat}:p9 (.own id g o n c)=[id]:=(rfl)
@[simp] theorem zqg:p9 .snil=[]:=(rfl)
@[simp] theorem zxC {es:List (List V)} {b:Bool}:p9 (.sl es b)=[]:=(rfl)
@[simp] theorem ztF {l:List V}:p9 (.agg l)=[]:=(rfl)
@[simp] theorem ztE {k:IntKind} {n:Int}:p9 (.int k n)=[]:=(rfl)
def AO(sz:Nat)(hs:HS)(v:V):Option V:=match v with
 |.snil=>some (.sl [] false)
 |.own i g o n c=>ob (rowOf sz hs (.own i g o n c)) fun es=>some (.sl es false)
 |v=>gd v.pure (some v)
@[simp] theorem zsG {sz:Nat} {hs:HS}:AO sz hs .snil=some (.sl [] false):=(rfl)
@[simp] theorem zw5 {sz:Nat} {hs:HS} {i g o n:Nat} {c:Option Nat}:AO sz hs (.own i g o n c)=ob (rowOf sz hs (.own i g o n c)) fun es=>some (.sl es false):=(rfl)
@[simp] theorem zAF {sz:Nat} {hs:HS} {es:List (List V)} {b:Bool}:AO sz hs (.sl es b)=gd (V.sl es b).pure (some (.sl es b)):=(rfl)
@[simp] theorem zw7 {sz:Nat} {hs:HS} {l:List V}:AO sz hs (.agg l)=gd (V.agg l).pure (some (.agg l)):=(rfl)
@[simp] theorem zw6 {sz:Nat} {hs:HS} {k:IntKind} {n:Int}:AO sz hs (.int k n)=gd (V.int k n).pure (some (.int k n)):=(rfl)
def zSQ(sz n:Nat)(X X0:V)(RL:List (Nat×Obj)):Prop:=(X0=X/\RL=[]/\X.pure=true)\/∃ es,X=.sl es false/\X0=oV n es/\RL=oH n sz es/\(es.all fun e=>e.all V.aI)=true
def zxN(sz:Nat)(g:Option Nat)(F:V->List (List V)->Option V):Spec:=fun vs hs=>match vs with
 |x::cl=>ob (BX g cl) fun l=>ob (qA hs l) fun q=>gd (nodupB (q.map Prod.fst++p9 x)) (ob (AO sz hs x) fun X=>ob (F X (q.map Prod.snd)) fun r=>gd r.pure (some (r,hs)))
 |_=>none
theorem DJ{H:PT Obj}:∀ {l:List (Nat×Obj)},(∀ p∈l,H.get p.1=some p.2)->∀ id,(rU H l).get id=H.get id:=by
 intro l
 induction l with
 |nil=>intro _ id;rfl
 | cons p l ih =>
   intro h id;show ((rU H l).set p.1 p.2).get id=_
   simp_all
theorem getD_lt{l:List Nat}{i:Nat}(h:i<l.length):l.getD i 0=l[i]:=by simp[List.getD,h]
theorem Rt{l:List Nat}(h:nodupB l=true){i j:Nat}(hi:i<l.length)(hj:j<l.length)(e:l.getD i 0=l.getD j 0):i=j:=by
 have:=J8 h;rw[getD_lt hi,getD_lt hj]at e;exact(List.getElem_inj this).1 e
section
variable {ρ:Nat->Value}{E:Env}{f:FuncId}{fn:Func}{sc:SC}{T:PT V}{g:Option Nat}{X X0 r:V}{RL:List (Nat×Obj)}{cs:List (List V)}{sz:Nat}
end
section
variable {ρ:Nat->Value}{P:Program}{f:Nat}{sz:Nat}{g:Option Nat}{F:V->List (List V)->Option V}
theorem Valid.rd (hf:lW P f) (h:∀ X cs r,F X cs=some r->r.pure=true->∀ x X0 RL,zSQ sz cs.length X X0 RL ->
 ∀ (hs:HS) (q:List (Nat×List V)),q.map Prod.snd=cs->(∀ p∈q,hs.H.get p.1=some (box p.2)/\p.1<hs.n/\p.2.all V.aI=true)->nodupB (q.map Prod.fst++p9 x)=true ->
   ((X0=x/\RL=[]/\x.pure=true/\p9 x=[])\/∃ es i,x=oV i es/\es≠[]/\X0=oV cs.length es/\RL=oH cs.length sz es/\(es.all fun e=>e.all V.aI)=true/\hs.H.get i=some (oO sz es)/\i<hs.n) ->
   aA ρ P f (x::zxO g (q.map fun p=>V.ptr p.1 0 0)) hs r hs):Valid ρ P f (zxN sz g F) where
 fn:=hf
 ok := by
  intro vs hs v hs' hq;unfold zxN at hq;split at hq
  . rename_i x cl;simp only[af,aD]at hq;obtain⟨l,hl,q,hq1,hnd,X,hX,r,hr,hp,hq⟩:=hq;cases hq;have e1:=KD hl;subst e1;obtain⟨rfl,hc⟩:=Sm hq1;have hlen:(q.map Prod.snd).length=q.length:=by simp
    unfold AO at hX;split at hX
    . cases hX;exact h _ _ _ hr hp .snil .snil [] (.inr ⟨[],rfl,rfl,rfl,rfl⟩) hs q rfl hc hnd (.inl ⟨rfl,rfl,rfl,rfl⟩)
    . rename_i i g o n c;simp only[af]at hX;obtain⟨es,hes,hX⟩:=hX;cases hX;rcases rq hes with⟨h1,_⟩|⟨id,h1,h2,h3,h4,h5⟩
      . cases h1
      . rw[h1]at hnd ⊢;exact h _ _ _ hr hp (oV id es) (oV _ es) (oH _ sz es) (.inr ⟨es,rfl,rfl,rfl,h5⟩) hs q rfl hc hnd (.inr ⟨es,id,rfl,h2,rfl,rfl,h5,h3,h4⟩)
    . rename_i h1 h2;simp only[aD]at hX;obtain⟨hpx,hX⟩:=hX;cases hX
      have L9:p9 x=[]:=by
       unfold p9;split
       . exact absurd rfl (h2 _ _ _ _ _)
       . rfl
      exact h _ _ _ hr hp x x [] (.inl ⟨rfl,rfl,hpx⟩) hs q rfl hc hnd (.inl ⟨rfl,rfl,hpx,L9⟩)
  . cases hq
 kept:=by
  intro vs hs q hq;unfold zxN at hq;split at hq
  . simp only[af,aD]at hq;obtain⟨_,_,_,_,_,_,_,_,_,_,hq⟩:=hq;cases hq;exact .refl _
  . cases hq
end
section
variable {sz:Nat}{g:Option Nat}{F:V->List (List V)->Option V}{x:V}{cl:List V}{hs:HS}{Q:V×HS->Prop}
@[simp] theorem zJ7:qI (zxN sz g F (x::cl) hs) Q=qI (BX g cl) fun l=>qI (qA hs l) fun q=>nodupB (q.map Prod.fst++p9 x)=true/\qI (AO sz hs x) fun X=>qI (F X (q.map Prod.snd)) fun r=>r.pure=true/\Q (r,hs):=by
  show ok (zxN sz g F (x::cl) hs) Q=ok (BX g cl) fun l=>ok (qA hs l) fun q=>nodupB (q.map Prod.fst++p9 x)=true/\ok (AO sz hs x) fun X=>ok (F X (q.map Prod.snd)) fun r=>r.pure=true/\Q (r,hs)
  simp only[zxN,jA,dA,aW]
variable {α β γ σ τ:Type} [Enc α] [Enc β] [fB σ] [fB τ]
def zKb(F:α->σ->Option β)(x:V)(cs:List (List V)):Option V:=match cs with
 | [c]=>ob (Enc.dec x) fun a=>ob (fB.dec c) fun s=>ob (F a s) fun r=>some (enc r)
 |_=>none
def zJ9(F:α->σ->τ->Option β)(x:V)(cs:List (List V)):Option V:=match cs with
 | [c,d]=>ob (Enc.dec x) fun a=>ob (fB.dec c) fun s=>ob (fB.dec d) fun t=>ob (F a s t) fun r=>some (enc r)
 |_=>none
@[simp] theorem zKa {F:α->σ->Option β} {x:V} {c:List V}:zKb F x [c]=ob (Enc.dec x) fun a=>ob (fB.dec c) fun s=>ob (F a s) fun r=>some (enc r):=(rfl)
@[simp] theorem zJ8 {F:α->σ->τ->Option β} {x:V} {c d:List V}:zJ9 F x [c,d]=ob (Enc.dec x) fun a=>ob (fB.dec c) fun s=>ob (fB.dec d) fun t=>ob (F a s t) fun r=>some (enc r):=(rfl)
end
section
variable {π σ:Nat->Nat}{A:Nat->Bool}
theorem V.mG(h:∀ i,A i=true->π i=σ i){v:V}(hv:v.wL A=true):v.jI π=v.jI σ:=by
 cases v<;>first|rfl|(simp only[V.jI];rw[h _ hv])
theorem V.Q7(h:∀ i,A i=true->π i=σ i){v:V}(hv:v.o5 A=true):v.iy π=v.iy σ:=by
 cases v with
 |agg cs=>show V.agg (cs.map (V.jI π))=V.agg (cs.map (V.jI σ));rw[List.map_congr_left fun u hu=>V.mG h (List.all_eq_true.1 (show (cs.all (V.wL A))=true from hv) u hu)]
 |func f cs=>show V.func f (cs.map (V.jI π))=V.func f (cs.map (V.jI σ));rw[List.map_congr_left fun u hu=>V.mG h (List.all_eq_true.1 (show (cs.all (V.wL A))=true from hv) u hu)]
 |iface t v=>show V.iface t (v.jI π)=V.iface t (v.jI σ);rw[V.mG h (show v.wL A=true from hv)]
 |ptr id g off=>exact V.mG (v:=.ptr id g off) h hv
 |own id g off len cap=>exact V.mG (v:=.own id g off len cap) h hv
 |map id=>exact V.mG (v:=.map id) h hv
 |yld id=>exact V.mG (v:=.yld id) h hv
 |_=>rfl
theorem Obj.J2(h:∀ i,A i=true->π i=σ i){o:Obj}(ho:o.in A=true):o.ren π=o.ren σ:=by
 cases o with
 | arr size gen es ex fz row =>
   show Obj.arr _ _ _ _ _ _=Obj.arr _ _ _ _ _ _
   congr 1
   refine List.map_congr_left fun e he=>List.map_congr_left fun v hv=>?_
   have h1:=List.all_eq_true.1 (List.all_eq_true.1 (show (es.all fun e=>e.all fun v=>if row then v.aI else v.o5 A)=true from ho) e he) v hv
   grind [V.jb,V.Q7]
 |mp es=>rfl
 |lp=>rfl
end
def Zi(M:List V->HS->Option fA):Spec:=fun vs hs=>ob (M vs hs) fun D=>gd D.v0.pure (some (D.v0,hs))
theorem znZ{ρ:Nat->Value}{E:Env}{f:FuncId}{fn:Func}{sc:SC}{T:PT V}{D:fA}(hρ:J.Good ρ)(hcon:aZ ρ E)(hP:E.P.follows .mixedOrders=true)(hN:nW E.P)(hf:E.P.funcs[f]?=some fn)(hb:fn.body.bind aB=some sc)(he:iI fn.ntmps D.vs0 0 .leaf=some T)
 (hg:D.Good) (ho:D.OL'=D.OL) (hr:D.v0.pure=true) (h:Wp ρ E D.k fn.ntmps sc T { H:=di D.OL,n:=D.k,log:=[] } (Leaves E.P fn (aj D.k D.v0 D.OL))) {vs:List V} {hs:HS} (hfit:D.Fits vs hs) :
 aA ρ E.P f vs hs D.v0 hs:=by
 have key:=MF hρ hcon hP hN hf hb he hg (by rw[ho];exact h) hfit;rw[V.jy (V.eO hr)]at key
 have hsame:∀ id,(sK hs D.k D.k' D.π D.OL').H.get id=hs.H.get id:=by
  intro id;refine DJ (fun p hp=>?_) id;obtain⟨p0,hp0,rfl⟩:=List.mem_map.1 hp;have hp1:p0∈D.OL:=by rw[<- ho];exact hp0
  have hlt:∀ i,dom D.OL i=true->i<D.k:=by
   intro i hi;obtain⟨q,hq,hqi⟩:=List.any_eq_true.1 hi;rw[beq_true]at hqi;exact List.mem_range.1 (by rw[<- hg.ol];exact List.mem_map.2 ⟨q,hq,hqi⟩)
  have h0:p0.1<D.k:=hlt _ (List.any_eq_true.2 ⟨p0,hp1,beq_true.2 rfl⟩);show hs.H.get (news hs.n D.k D.π p0.1)=some (p0.2.ren (news hs.n D.k D.π));rw[show news hs.n D.k D.π p0.1=D.π p0.1 from if_pos h0,Obj.J2 (A:=dom D.OL) (π:=news hs.n D.k D.π) (σ:=D.π) (fun i hi=>if_pos (hlt i hi)) (hg.zHu p0 hp1)];exact hfit.obj p0 hp1
 grind [aA.quiet,id]
theorem Valid.Zi{ρ:Nat->Value}{P:Program}{f:Nat}{M:List V->HS->Option fA}(hf:lW P f)(h:∀ vs hs D,M vs hs=some D->D.v0.pure=true->aA ρ P f vs hs D.v0 hs):Valid ρ P f (Zi M) where
 fn:=hf
 ok:=by
  intro vs hs v hs' hq;simp only[J.Zi,af,aD]at hq;obtain⟨D,hD,hp,hq⟩:=hq;cases hq;exact h _ _ _ hD hp
 kept:=by
  intro vs hs q hq;simp only[J.Zi,af,aD]at hq;obtain⟨D,hD,hp,hq⟩:=hq;cases hq;exact .refl _
@[simp] theorem zKc {M:List V->HS->Option fA} {vs:List V} {hs:HS} {Q:V×HS->Prop}:qI (J.Zi M vs hs) Q=qI (M vs hs) fun D=>D.v0.pure=true/\Q (D.v0,hs):=by
  show ok (J.Zi M vs hs) Q=ok (M vs hs) fun D=>D.v0.pure=true/\Q (D.v0,hs)
  simp only[J.Zi,dA,jA,aW]
section
variable {α β γ:Type} [Enc α] [Enc β] [fB γ]
def zQZ(w:Nat)(g:Nat)(a r:V)(id:Nat):List V:=match w with
 | 0=>[a,r]
 | 1=>[r,a]
 | 2=>[a,.ptr id 0 0]
 |_=>[a,.func g [.ptr id 0 0]]
def zcf(sz w g:Nat)(a:V)(id ro:Nat)(es:List (List V))(r:V):fA where
 k:=if w<2 then 1 else 2
 k':=if w<2 then 1 else 2
 π:=fun i=>if w<2 then ro else if i=0 then id else ro
 OL:=if w<2 then [(0,oO sz es)]else [(0,box [oV 1 es]),(1,oO sz es)]
 OL':=if w<2 then [(0,oO sz es)]else [(0,box [oV 1 es]),(1,oO sz es)]
 vs0:=zQZ w g a (oV 0 es) 0
 v0:=r
def zGB(sz w g:Nat)(F:α->List γ->Option β)(vs:List V)(hs:HS):Option fA :=
 match w,vs with
 | 0,[a,.own ro x o n c]=>ob (Enc.dec a:Option α) fun t=>ob (rowOf sz hs (.own ro x o n c)) fun es=>ob (bQ es:Option (List γ)) fun l=>ob (F t l) fun r=>some (zcf sz 0 g a 0 ro es (enc r))
 | 1,[.own ro x o n c,a]=>ob (Enc.dec a:Option α) fun t=>ob (rowOf sz hs (.own ro x o n c)) fun es=>ob (bQ es:Option (List γ)) fun l=>ob (F t l) fun r=>some (zcf sz 1 g a 0 ro es (enc r))
 | 2,[a,.ptr id 0 0]=>ob (Enc.dec a:Option α) fun t=>ob (hs.H.get id) fun zua=>ob (capB? zua) fun v=>ob (rowOf sz hs v) fun es=>ob (bQ es:Option (List γ)) fun l=>ob (F t l) fun r =>
  gd (et (Nat.blt id hs.n) (et (nt (Nat.beq (aN es) 0)) (nt (Nat.beq id (fH v))))) (some (zcf sz 2 g a id (fH v) es (enc r)))
 | 3,[a,.func g' [.ptr id 0 0]]=>ob (Enc.dec a:Option α) fun t=>ob (hs.H.get id) fun zua=>ob (capB? zua) fun v=>ob (rowOf sz hs v) fun es=>ob (bQ es:Option (List γ)) fun l=>ob (F t l) fun r =>
  gd (et (Nat.beq g' g) (et (Nat.blt id hs.n) (et (nt (Nat.beq (aN es) 0)) (nt (Nat.beq id (fH v)))))) (some (zcf sz 3 g a id (fH v) es (enc r)))
 |_,_=>none
variable {sz g:Nat}{F:α->List γ->Option β}{a:V}{hs:HS}
@[simp] theorem zOn {ro x o n:Nat} {c:Option Nat}:zGB sz 0 g F [a,.own ro x o n c] hs=ob (Enc.dec a:Option α) fun t=>ob (rowOf sz hs (.own ro x o n c)) fun es=>ob (bQ es:Option (List γ)) fun l=>ob (F t l) fun r=>some (zcf sz 0 g a 0 ro es (enc r)):=(rfl)
@[simp] theorem zOm {ro x o n:Nat} {c:Option Nat}:zGB sz 1 g F [.own ro x o n c,a] hs=ob (Enc.dec a:Option α) fun t=>ob (rowOf sz hs (.own ro x o n c)) fun es=>ob (bQ es:Option (List γ)) fun l=>ob (F t l) fun r=>some (zcf sz 1 g a 0 ro es (enc r)):=(rfl)
@[simp] theorem zOl {id:Nat}:zGB sz 2 g F [a,.ptr id 0 0] hs=ob (Enc.dec a:Option α) fun t=>ob (hs.H.get id) fun zua=>ob (capB? zua) fun v=>ob (rowOf sz hs v) fun es=>ob (bQ es:Option (List γ)) fun l=>ob (F t l) fun r =>
      gd (et (Nat.blt id hs.n) (et (nt (Nat.beq (aN es) 0)) (nt (Nat.beq id (fH v))))) (some (zcf sz 2 g a id (fH v) es (enc r))):=(rfl)
@[simp] theorem zOk {id g':Nat}:zGB sz 3 g F [a,.func g' [.ptr id 0 0]] hs=ob (Enc.dec a:Option α) fun t=>ob (hs.H.get id) fun zua=>ob (capB? zua) fun v=>ob (rowOf sz hs v) fun es=>ob (bQ es:Option (List γ)) fun l=>ob (F t l) fun r =>
      gd (et (Nat.beq g' g) (et (Nat.blt id hs.n) (et (nt (Nat.beq (aN es) 0)) (nt (Nat.beq id (fH v)))))) (some (zcf sz 3 g a id (fH v) es (enc r))):=(rfl)
@[simp] theorem zJ3 {w id ro:Nat} {es:List (List V)} {r:V}:(zcf sz w g a id ro es r).v0=r:=(rfl)
end
end Go.J
/- Functions of two values and a row that they append to;they hand back the row and one more value. -/
namespace Go.J
open Enc (enc)
def znL(fst:Bool)(v r:V):V:=match fst with
 |true=>.tuple [v,r]
 |false=>.tuple [r,v]
@[simp] theorem zBe {v r:V}:znL true v r=.tuple [v,r]:=(rfl)
@[simp] theorem zxy {v r:V}:znL false v r=.tuple [r,v]:=(rfl)
def zxx(sz:Nat)(fst:Bool)(F:V->V->List (List V)->Option (List (List V)×V)):Spec:=fun vs hs=>match vs with
 | [a,b,v]=>gd (et a.pure (et b.pure (cB hs hs.n))) (ob (rowOf sz hs v) fun es=>ob (F a b es) fun r =>
  gd (et (r.1.all fun e=>e.all V.aI) (et (r.2.o5 fun _=>false) (Nat.ble (aN es) (aN r.1)))) (some (znL fst (iw sz v es r.1 hs).1 r.2,(iw sz v es r.1 hs).2)))
 |_=>none
def xY(k:Nat)(v0:V)(OL:List (Nat×Obj))(v:V)(hs:HS):Prop:=∃ a b q,v=.tuple [a,b]/\iE a hs=some q/\aj k v0 OL (.tuple [dL q.1,b]) q.2
theorem zFA{ρ:Nat->Value}{P:Program}{s:Start}{K:V->HS->Prop}{k:Nat}{v0:V}{OL:List (Nat×Obj)}(hK:∀ v hs,K v hs->aj k v0 OL v hs\/xY k v0 OL v hs){e:Ending}{w:World}(h:EA ρ P s K e w):EA ρ P s (aj k v0 OL) e w:=by
 cases e with
 |panicked c=>exact h
 |outgrown=>exact h
 | returned x =>
   obtain⟨v,hs',F',μ',q,hL,hR,hD,hx⟩:=h;rcases hK _ _ q with h|⟨a,b,p,rfl,hp,hg⟩
   . exact⟨v,hs',F',μ',h,hL,hR,hD,hx⟩
   . obtain⟨ys,rfl,hsz,hc⟩:=bR.jv ρ hx;obtain⟨F2,R2,f2,_,P2⟩:=oF hR (hc 0 a rfl) hp;refine⟨.tuple [dL p.1,b],p.2,F2,μ',hg,hL.step f2,R2,fun id g hg=>(jM hp).hm id (hD id g hg),.tuple _ ys hsz fun i v hi=>?_⟩;rcases i with _|_|i
     . cases hi;exact .pure P2.norm
     . cases hi;exact f2.rep hR (hc 1 b rfl)
     . simp at hi
section
variable {ρ:Nat->Value}{E:Env}{f:FuncId}{fn:Func}{sc:SC}{T:PT V}{es es':List (List V)}{a b r:V}{sz:Nat}{fst:Bool}
end
section
variable {ρ:Nat->Value}{P:Program}{f:Nat}{sz:Nat}{fst:Bool}{F:V->V->List (List V)->Option (List (List V)×V)}
theorem Valid.rw (hf:lW P f) (h:∀ a b es r,a.pure=true->b.pure=true->(es.all fun e=>e.all V.aI)=true->F a b es=some r->(r.1.all fun e=>e.all V.aI)=true->(r.2.o5 fun _=>false)=true->es.length<=r.1.length ->
 ∀ (hs:HS) (v:V),rowOf sz hs v=some es->hs.H.get hs.n=none->aA ρ P f [a,b,v] hs (znL fst (iw sz v es r.1 hs).1 r.2) (iw sz v es r.1 hs).2):Valid ρ P f (zxx sz fst F) where
 fn:=hf
 ok := by
  intro vs hs v hs' hq;unfold zxx at hq;split at hq
  . rename_i a b v0;simp only[aD,af,bA]at hq;obtain⟨⟨ha,hb,iQ⟩,es,hes,r,hr,⟨h1,h2,h3⟩,hq⟩:=hq;cases hq;rw[ae]at iQ;rw[dI,bJ,bJ]at h3
    have h0:(es.all fun e=>e.all V.aI)=true:=by
     rcases rq hes with⟨_,rfl⟩|⟨_,_,_,_,_,h⟩
     . rfl
     . exact h
    exact h a b es r ha hb h0 hr h1 h2 h3 hs v0 hes iQ
  . cases hq
 kept := by
  intro vs hs q hq;unfold zxx at hq;split at hq
  . rename_i a b v0;simp only[aD,af,bA]at hq;obtain⟨⟨_,_,iQ⟩,es,hes,r,hr,_,hq⟩:=hq;cases hq;rw[ae]at iQ;unfold iw
    cases es with
    | nil =>
      show Kept hs (bi (Nat.beq (aN r.1) 0) hs _);rw[dX];split
      . exact .refl _
      . refine⟨fun k hk=>List.mem_cons_of_mem _ hk,fun k o ho hn=>?_,Nat.le_succ _,fun k hk=>?_⟩
        . show (hs.H.set hs.n _).get k=_;rw[PT.bD];split
          . rename_i e;subst e;rw[iQ]at ho;cases ho
          . exact ho
        . show (hs.H.set hs.n _).get k≠none;rw[PT.bD];split
          . simp
          . exact hk
    |cons a l=>exact jl ..
  . cases hq
end
section
variable {sz:Nat}{fst:Bool}{F:V->V->List (List V)->Option (List (List V)×V)}{a b v:V}{hs:HS}{Q:V×HS->Prop}
@[simp] theorem zJ2:qI (zxx sz fst F [a,b,v] hs) Q=((a.pure=true/\b.pure=true/\hs.H.get hs.n=none)/\qI (rowOf sz hs v) fun es=>qI (F a b es) fun r =>
 ((r.1.all fun e=>e.all V.aI)=true/\(r.2.o5 fun _=>false)=true/\es.length<=r.1.length)/\Q (znL fst (iw sz v es r.1 hs).1 r.2,(iw sz v es r.1 hs).2)):=by
  show ok (zxx sz fst F [a,b,v] hs) Q=((a.pure=true/\b.pure=true/\hs.H.get hs.n=none)/\ok (rowOf sz hs v) fun es=>ok (F a b es) fun r =>
   ((r.1.all fun e=>e.all V.aI)=true/\(r.2.o5 fun _=>false)=true/\es.length<=r.1.length)/\Q (znL fst (iw sz v es r.1 hs).1 r.2,(iw sz v es r.1 hs).2))
  simp only[zxx,jA,dA,aW,bA,ae,dI,bJ]
variable {α β γ δ:Type} [Enc α] [Enc β] [fB γ] [Enc δ]
def zQX(F:α->β->List γ->Option (List γ×δ))(a b:V)(es:List (List V)):Option (List (List V)×V) :=
 ob (Enc.dec a) fun a=>ob (Enc.dec b) fun b=>ob (bQ es) fun L=>ob (F a b L) fun r=>some (r.1.map fB.cells,enc r.2)
@[simp] theorem zOi {F:α->β->List γ->Option (List γ×δ)} {es:List (List V)}:zQX F a b es=ob (Enc.dec a) fun a=>ob (Enc.dec b) fun b=>ob (bQ es) fun L=>ob (F a b L) fun r=>some (r.1.map fB.cells,enc r.2):=(rfl)
end
theorem xY.keep{k:Nat}{v0 a b:V}{OL:List (Nat×Obj)}{hs:HS}(hi:nodupB (OL.map fun p=>p.1)=true)(hk:(List.range k).all (fun i=>dom OL i)=true)(hs2:ok (gV hs a) fun a'=>V.tuple [dL a',b]=v0/\v0.nk (dom OL)=true)
 (hH:∀ p∈OL,p.2.in (dom OL)=true/\(a.cells.any (ownB p.1))=false/\hs.H.get p.1=some p.2):xY k v0 OL (.tuple [a,b]) hs:=by
 obtain⟨a',ha,rfl,hv⟩:=hs2;refine⟨a,b,(a',ig hs a.cells),rfl,by simp only[iE,ha];rfl,aj.bO hi hk hv fun p hp=>?_⟩;obtain⟨h1,h2,h3⟩:=hH p hp;exact⟨h1,by rw[Ea h2];exact h3⟩
section
variable {ρ:Nat->Value}{E:Env}{f:FuncId}{fn:Func}{sc:SC}{vs:List V}{T:PT V}{r:V}{c c':List V}
end
end Go.J
/- The pairs that a search for common parts has seen: a variable with two rows. -/
namespace Go.J
open Enc (enc)
def zG6(u v:V):Obj:=.arr 2 0 [[u,v]] true false false
@[simp] theorem zOt {u v:V}:zG6 u v=.arr 2 0 [[u,v]] true false false:=(rfl)
def zOs(X Y:List Ty):List (Nat×Obj):=(0,zG6 (oV 1 (X.map ax)) (oV 2 (Y.map ax)))::(oH 1 5 (X.map ax)++oH 2 5 (Y.map ax))
def zG4(X:List Ty):Nat:=match X with
 | []=>1
 |_::_=>3
@[simp] theorem zG3:zG4 []=1:=(rfl)
@[simp] theorem zBW {x:Ty} {X:List Ty}:zG4 (x::X)=3:=(rfl)
def zx1(id ra rb:Nat)(a b:Ty)(X Y X2 Y2:List Ty)(r:Ty):fA where
 k:=zG4 X
 k':=zG4 X2
 π:=fun i=>if i=0 then id else if i=1 then ra else rb
 OL:=zOs X Y
 OL':=zOs X2 Y2
 vs0:=[.ptr 0 0 0,enc a,enc b]
 v0:=enc r
def zKk(o:Obj):Option (V×V):=match o with
 |.arr 2 0 [[u,v]] true false false=>some (u,v)
 |_=>none
@[simp] theorem zOq {u v:V}:zKk (.arr 2 0 [[u,v]] true false false)=some (u,v):=(rfl)
@[simp] theorem zys {n:Nat}:xy n []=false:=(rfl)
@[simp] theorem zut {n x:Nat} {l:List Nat}:xy n (x::l)=(decide (n=x)||xy n l):=by
  show bi (Nat.beq n x) true (xy n l)=_;rw[Bool.eq_iff_iff];by_cases h:n=x
  . simp[h]
  . simp[h]
theorem GY{x:Nat}{l m:List Nat}:meet (x::l) m=(xy x m||meet l m):=by
 show bi (xy x m) true (meet l m)=_;cases xy x m<;>rfl
@[simp] theorem zHn {x y z:Nat} {m:List Nat}:meet [x] (y::z::m)=xy x (y::z::m):=by rw[GY];simp
@[simp] theorem zHm {x w:Nat} {l m:List Nat}:meet (x::w::l) m=(xy x m||meet (w::l) m):=GY
def zQ2 (F:List Ty->List Ty->Ty->Ty->Option (T3 (List Ty) (List Ty) Ty)) (vs:List V) (hs:HS):Option fA:=match vs with
 | [.ptr id 0 0,av,bv]=>ob (Enc.dec av:Option Ty) fun a=>ob (Enc.dec bv:Option Ty) fun b=>ob (hs.H.get id) fun o=>ob (zKk o) fun q=>ob (rowOf 5 hs q.1) fun ea=>ob (rowOf 5 hs q.2) fun eb=>ob (bQ ea:Option (List Ty)) fun X=>ob (bQ eb:Option (List Ty)) fun Y=>ob (F X Y a b) fun r =>
  gd (et (Nat.blt id hs.n) (et (Nat.beq (aN X) (aN Y)) (et (Nat.beq (aN r.a) (aN r.b)) (et (Nat.ble (aN X) (aN r.a)) (et (bi (Nat.beq (aN X) 0) true (et (nt (Nat.beq id (fH q.1))) (et (nt (Nat.beq id (fH q.2))) (nt (Nat.beq (fH q.1) (fH q.2)))))) (et (cB hs hs.n) (cB hs (hs.n+1))))))))
   (some (zx1 id (fH q.1) (fH q.2) a b X Y r.a r.b r.c))
 |_=>none
section
variable {id ra rb:Nat}{a b r x y z u:Ty}{X Y X2 Y2:List Ty}{hs:HS}
@[simp] theorem zG5:(zx1 id ra rb a b X Y X2 Y2 r).val hs=enc r:=V.jy (V.eO (Dj r))
@[simp] theorem zx0:(zx1 id ra rb a b [] [] [] [] r).heap hs={ H:=hs.H.set id (.arr 2 0 [[.snil,.snil]] true false false),n:=hs.n,log:=id::hs.log }:=(rfl)
@[simp] theorem zxZ:(zx1 id ra rb a b [] [] (z::X2) (u::Y2) r).heap hs={ H:=((hs.H.set (hs.n+1) (oO 5 ((u::Y2).map ax))).set hs.n (oO 5 ((z::X2).map ax))).set id (.arr 2 0 [[oV hs.n ((z::X2).map ax),oV (hs.n+1) ((u::Y2).map ax)]] true false false),n:=hs.n+2,log:=id::hs.n::(hs.n+1)::hs.log }:=by
  show ({ H:=((hs.H.set (hs.n+1) ((oO 5 ((u::Y2).map ax)).ren _)).set hs.n ((oO 5 ((z::X2).map ax)).ren _)).set id ((zG6 (oV 1 ((z::X2).map ax)) (oV 2 ((u::Y2).map ax))).ren _),n:=hs.n+2,log:=id::hs.n::(hs.n+1)::hs.log }:HS)=_;rw[nH (sz:=5) (es:=(z::X2).map ax) (xc (z::X2)),nH (sz:=5) (es:=(u::Y2).map ax) (xc (u::Y2))];rfl
@[simp] theorem zxY:(zx1 id ra rb a b (x::X) (y::Y) (z::X2) (u::Y2) r).heap hs={ H:=((hs.H.set rb (oO 5 ((u::Y2).map ax))).set ra (oO 5 ((z::X2).map ax))).set id (.arr 2 0 [[oV ra ((z::X2).map ax),oV rb ((u::Y2).map ax)]] true false false),n:=hs.n,log:=id::ra::rb::hs.log }:=by
  show ({ H:=((hs.H.set rb ((oO 5 ((u::Y2).map ax)).ren _)).set ra ((oO 5 ((z::X2).map ax)).ren _)).set id ((zG6 (oV 1 ((z::X2).map ax)) (oV 2 ((u::Y2).map ax))).ren _),n:=hs.n,log:=id::ra::rb::hs.log }:HS)=_;rw[nH (sz:=5) (es:=(z::X2).map ax) (xc (z::X2)),nH (sz:=5) (es:=(u::Y2).map ax) (xc (u::Y2))];rfl
@[simp] theorem zOr {F:List Ty→List Ty→Ty→Ty→Option (T3 (List Ty) (List Ty) Ty)} {av bv:V}:zQ2 F [.ptr id 0 0,av,bv] hs=ob (Enc.dec av:Option Ty) fun a=>ob (Enc.dec bv:Option Ty) fun b=>ob (hs.H.get id) fun o=>ob (zKk o) fun q=>ob (rowOf 5 hs q.1) fun ea=>ob (rowOf 5 hs q.2) fun eb=>ob (bQ ea:Option (List Ty)) fun X=>ob (bQ eb:Option (List Ty)) fun Y=>ob (F X Y a b) fun r =>
      gd (et (Nat.blt id hs.n) (et (Nat.beq (aN X) (aN Y)) (et (Nat.beq (aN r.a) (aN r.b)) (et (Nat.ble (aN X) (aN r.a)) (et (bi (Nat.beq (aN X) 0) true (et (nt (Nat.beq id (fH q.1))) (et (nt (Nat.beq id (fH q.2))) (nt (Nat.beq (fH q.1) (fH q.2)))))) (et (cB hs hs.n) (cB hs (hs.n+1))))))))
       (some (zx1 id (fH q.1) (fH q.2) a b X Y r.a r.b r.c)):=(rfl)
end
end Go.J
